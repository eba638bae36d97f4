import Derived.Test.YtgnjidopnplbbaaGreatDoorR30
/- Conditions: the reference's New, Split, over values. -/
set_option maxRecDepth 1000000
set_option linter.unusedVariables false
namespace Go.V
open Go Go.Proofs

def z4:List AV:=[.nilslice,.nilslice,.int .i64 0,.int .i64 0]
def ls49 (n:Int) (P:YR -> Prop):LS YR where
 F y:=[(0,.v (.int .i64 n)),(2,.l 2 0),(4,.l 4 0),(5,.v (.int .i64 (y.i:Int)))]
 FL y:=[(2,[.nilslice,.nilslice,.int .i64 0,.int .i64 0]),(4,[y.iv,.nilslice,.int .i64 n,.int .i64 0])]
 S y:=y.σ
 I:=P
 μ y:=n.toNat - y.i
 Ex y e a σ:=match e with
  | .exit 0 => ¬ ((y.i:Int) < n) /\ atF a [(2,.l 2 0),(4,.l 4 0)] [(2,[.nilslice,.nilslice,.int .i64 0,.int .i64 0]),(4,[y.iv,.nilslice,.int .i64 n,.int .i64 0])] (y.σ.Le σ)
  | _ => False
def N49 (r:Bool):FnHint:=hAt [(7,4,match r with | true => hEl 164 4 | false => Hint.s)]
theorem fnParts_49:fnParts Tryz.prog [] 49 = [.loop (bodyOf (fnPart Tryz.prog [] 49 0))]:=by kernel_rfl
theorem vc49n (B:Nat) (w0:World) (G:Nat -> AV) (n:Int) (P:YR -> Prop) (y:YR):(wpX [] (EV B w0 G) (H0 (EV B w0 G)) (fun _ _ _ _ => False) (annA 49) (N49 false) (bodyOf (fnPart Tryz.prog [] 49 0)) ((ls49 n P).post y) (frm [(0,.v (.int .i64 n)),(2,.l 2 0),(4,.l 4 0),(5,.v (.int .i64 (y.i:Int)))] [(2,[.nilslice,.nilslice,.int .i64 0,.int .i64 0]),(4,[.nilslice,.nilslice,.int .i64 n,.int .i64 0])]) y.σ) =
 ((bcase (decide ((((YR.i y:Nat):Int):Int) < (n)))
 ((((40:Nat) <= 140737488355328)/\
 ((1:Nat) <= 4611686018427387904))/\
 (∃ x'0:YR,(((P (x'0))/\
 (((LS.μ (ls49 n P) x'0):Nat) < (LS.μ (ls49 n P) y)))/\
 ((Rf (TV.v (AV.int .i64 (n))))/\
 ((Rf (TV.l 2 0))/\
 ((Rf (TV.l 4 0))/\
 (((TV.v (AV.int .i64 (IntKind.wrap .i64 (((YR.i y:Nat):Int) + 1)))) = (TV.v (AV.int .i64 ((YR.i x'0:Nat):Int))))/\
 ((Rf [AV.nilslice,AV.nilslice,(AV.int .i64 0),(AV.int .i64 0)])/\
 (([(AV.rslice (State.next (y.1)) 0 1),AV.nilslice,(AV.int .i64 (n)),(AV.int .i64 0)] = [(YR.iv x'0),AV.nilslice,(AV.int .i64 (n)),(AV.int .i64 0)])/\
 (State.Le ((ls49 n P).3 x'0) (State.new (y.1) (AObj.cells [AV.nilslice,(AV.bool true),(AV.bool true),(AV.int .i64 (-1))] 164 4 true))))))))))))
 ((((((YR.i y:Nat):Int):Int) < (n)) -> False)/\
 ((Rf (TV.l 2 0))/\
 ((Rf (TV.l 4 0))/\
 ((Rf [AV.nilslice,AV.nilslice,(AV.int .i64 0),(AV.int .i64 0)])/\
 (([AV.nilslice,AV.nilslice,(AV.int .i64 (n)),(AV.int .i64 0)] = [(YR.iv y),AV.nilslice,(AV.int .i64 (n)),(AV.int .i64 0)])/\
 (State.Le (y.1) (y.1))))))))):=by kernel_rfl
theorem vc49r (B:Nat) (w0:World) (G:Nat -> AV) (n:Int) (id k:Nat) (P:YR -> Prop) (y:YR):(wpX [] (EV B w0 G) (H0 (EV B w0 G)) (fun _ _ _ _ => False) (annA 49) (N49 true) (bodyOf (fnPart Tryz.prog [] 49 0)) ((ls49 n P).post y) (frm [(0,.v (.int .i64 n)),(2,.l 2 0),(4,.l 4 0),(5,.v (.int .i64 (y.i:Int)))] [(2,[.nilslice,.nilslice,.int .i64 0,.int .i64 0]),(4,[.rslice id 0 k,.nilslice,.int .i64 n,.int .i64 0])]) y.σ) =
 ((bcase (decide ((((YR.i y:Nat):Int):Int) < (n)))
 (∃ a0:OE,(((State.objs (y.1) (id)) = (AObj.cells (OE.cs a0) 164 4 (OE.g a0)))/\
 ((((0:Nat) = 0)/\
 (((((((k) + 1) * 40):Nat) <= 140737488355328)/\
 ((((k) + 1):Nat) <= 4611686018427387904))/\
 ((((k) * 4):Nat) <= (List.length (OE.cs a0)))))/\
 (∃ x'1:YR,(((P (x'1))/\
 (((LS.μ (ls49 n P) x'1):Nat) < (LS.μ (ls49 n P) y)))/\
 ((Rf (TV.v (AV.int .i64 (n))))/\
 ((Rf (TV.l 2 0))/\
 ((Rf (TV.l 4 0))/\
 (((TV.v (AV.int .i64 (IntKind.wrap .i64 (((YR.i y:Nat):Int) + 1)))) = (TV.v (AV.int .i64 ((YR.i x'1:Nat):Int))))/\
 ((Rf [AV.nilslice,AV.nilslice,(AV.int .i64 0),(AV.int .i64 0)])/\
 (([(AV.rslice (State.next (y.1)) 0 ((k) + 1)),AV.nilslice,(AV.int .i64 (n)),(AV.int .i64 0)] = [(YR.iv x'1),AV.nilslice,(AV.int .i64 (n)),(AV.int .i64 0)])/\
 (State.Le ((ls49 n P).3 x'1) (State.new (State.set (y.1) (id) AObj.dead) (AObj.cells ((List.take ((k) * 4) (OE.cs a0)) ++ [AV.nilslice,(AV.bool true),(AV.bool true),(AV.int .i64 (-1))]) 164 4 true))))))))))))))
 ((((((YR.i y:Nat):Int):Int) < (n)) -> False)/\
 ((Rf (TV.l 2 0))/\
 ((Rf (TV.l 4 0))/\
 ((Rf [AV.nilslice,AV.nilslice,(AV.int .i64 0),(AV.int .i64 0)])/\
 (([(AV.rslice (id) 0 (k)),AV.nilslice,(AV.int .i64 (n)),(AV.int .i64 0)] = [(YR.iv y),AV.nilslice,(AV.int .i64 (n)),(AV.int .i64 0)])/\
 (State.Le (y.1) (y.1))))))))):=by kernel_rfl
def T49 (n:Int) (P R:YR -> Prop):LHand:=fun _ Q a σ => ∃ y:YR,P y /\ atF a ((ls49 n P).F y) ((ls49 n P).FL y) (y.σ.Le σ) /\
 ∀ y':YR,R y' -> Q (.exit 0) (frm [(2,.l 2 0),(4,.l 4 0)] [(2,[.nilslice,.nilslice,.int .i64 0,.int .i64 0]),(4,[y'.iv,.nilslice,.int .i64 n,.int .i64 0])]) y'.σ
theorem vc49 (B:Nat) (w0:World) (G:Nat -> AV) (n:Int) (P R:YR -> Prop) (Q:AV -> State -> Prop):(bodyX [] (EV B w0 G) (H0 (EV B w0 G)) (T49 n P R) annA (N49 false) 49 [.int .i64 n] noObj Q) =
 ((bcase (decide (((n):Int) < 0))
 (Q (AV.tuple [(AV.agg [AV.nilslice,AV.nilslice,(AV.int .i64 0),(AV.int .i64 0)]),(AV.int .i64 1)]) (noObj))
 (bcase (decide (((n):Int) > 64))
 (Q (AV.tuple [(AV.agg [AV.nilslice,AV.nilslice,(AV.int .i64 0),(AV.int .i64 0)]),(AV.int .i64 1)]) (noObj))
 (∃ y0:YR,((P (y0))/\
 (((Rf (TV.v (AV.int .i64 (n))))/\
 ((Rf (TV.l 2 0))/\
 ((Rf (TV.l 4 0))/\
 (((TV.v (AV.int .i64 0)) = (TV.v (AV.int .i64 ((YR.i y0:Nat):Int))))/\
 ((Rf [AV.nilslice,AV.nilslice,(AV.int .i64 0),(AV.int .i64 0)])/\
 (([AV.nilslice,AV.nilslice,(AV.int .i64 (n)),(AV.int .i64 0)] = [(YR.iv y0),AV.nilslice,(AV.int .i64 (n)),(AV.int .i64 0)])/\
 (State.Le (y0.1) (noObj))))))))/\
 (∀ y'1:YR,((R (y'1)) -> (bcase (true && (true && (((AV.one (YR.iv y'1)) && (true && (true && (true && true)))) && true)))
 (Q (AV.tuple [(AV.agg [(YR.iv y'1),AV.nilslice,(AV.int .i64 (n)),(AV.int .i64 0)]),(AV.int .i64 0)]) (y'1.1))
 False))))))))):=by kernel_rfl

structure YT where
 σ:State
 c:MH
 ov:AV
 id:Nat
 n:Nat
 j:Nat
def FL50 (w p:Nat) (tv:AV) (y:YT):List (Nat × List AV):=[(3,[.rslice y.id 0 y.n,tv,.int .i64 (w:Int),.int .i64 (p:Int)]),(6,[.nilslice,.nilslice,.int .i64 0,.int .i64 0])]
def F50 (n:Int) (y:YT):List (Nat × TV):=[(2,.v (.int .i64 n)),(3,.l 3 0),(6,.l 6 0),(9,.v y.ov)]
def ls50 (i n:Int) (w p:Nat) (tv:AV) (P:YT -> Prop):LS YT where
 F y:=[(1,.v (.int .i64 i)),(2,.v (.int .i64 n)),(3,.l 3 0),(6,.l 6 0),(9,.v y.ov),(10,.v (.int .i64 (y.j:Int)))]
 FL y:=FL50 w p tv y
 S y:=y.σ
 I:=P
 μ y:=n.toNat - y.j
 Ex y e a σ:=match e with
  | .exit 0 => ¬ ((y.j:Int) < n) /\ atF a (F50 n y) (FL50 w p tv y) (y.σ.Le σ)
  | _ => False
def N50l (r:Bool):FnHint:=hAt [(13,5,match r with | true => hEl 3 1 | false => Hint.s),(14,5,hEl 164 4)]
theorem fnParts_50:fnParts Tryz.prog [] 50 = [.loop (bodyOf (fnPart Tryz.prog [] 50 0))]:=by kernel_rfl
theorem vc50n (B:Nat) (w0:World) (G:Nat -> AV) (i n:Int) (w p:Nat) (tv:AV) (P:YT -> Prop) (y:YT):(wpX [] (EV B w0 G) (H0 (EV B w0 G)) (fun _ _ _ _ => False) (annA 50) (N50l false) (bodyOf (fnPart Tryz.prog [] 50 0)) ((ls50 i n w p tv P).post y) (frm [(1,.v (.int .i64 i)),(2,.v (.int .i64 n)),(3,.l 3 0),(6,.l 6 0),(9,.v (.slice 1 [] .full)),(10,.v (.int .i64 (y.j:Int)))] (FL50 w p tv y)) y.σ) =
 ((bcase (decide ((((YT.j y:Nat):Int):Int) < (n)))
 ((((8:Nat) <= 140737488355328)/\
 ((1:Nat) <= 4611686018427387904))/\
 (∃ a0:OE,(((State.objs (State.new (y.1) (AObj.cells [(AV.int .i64 ((YT.n y:Nat):Int))] 3 1 true)) (YT.id y)) = (AObj.cells (OE.cs a0) 164 4 (OE.g a0)))/\
 ((((0:Nat) = 0)/\
 (((((((YT.n y) + 1) * 40):Nat) <= 140737488355328)/\
 ((((YT.n y) + 1):Nat) <= 4611686018427387904))/\
 ((((YT.n y) * 4):Nat) <= (List.length (OE.cs a0)))))/\
 (∃ x'1:YT,(((P (x'1))/\
 (((LS.μ (ls50 i n w p tv P) x'1):Nat) < (LS.μ (ls50 i n w p tv P) y)))/\
 ((Rf (TV.v (AV.int .i64 (i))))/\
 ((Rf (TV.v (AV.int .i64 (n))))/\
 ((Rf (TV.l 3 0))/\
 ((Rf (TV.l 6 0))/\
 (((TV.v (AV.rslice (State.next (y.1)) 0 1)) = (TV.v (YT.ov x'1)))/\
 (((TV.v (AV.int .i64 (IntKind.wrap .i64 (((YT.j y:Nat):Int) + 1)))) = (TV.v (AV.int .i64 ((YT.j x'1:Nat):Int))))/\
 (([(AV.rslice ((State.next (y.1)) + 1) 0 ((YT.n y) + 1)),(tv),(AV.int .i64 ((w:Nat):Int)),(AV.int .i64 ((p:Nat):Int))] = [(AV.rslice (YT.id x'1) 0 (YT.n x'1)),(tv),(AV.int .i64 ((w:Nat):Int)),(AV.int .i64 ((p:Nat):Int))])/\
 ((Rf [AV.nilslice,AV.nilslice,(AV.int .i64 0),(AV.int .i64 0)])/\
 (State.Le ((ls50 i n w p tv P).3 x'1) (State.new (State.set (State.new (y.1) (AObj.cells [(AV.int .i64 ((YT.n y:Nat):Int))] 3 1 true)) (YT.id y) AObj.dead) (AObj.cells ((List.take ((YT.n y) * 4) (OE.cs a0)) ++ [AV.nilslice,(AV.bool true),(AV.bool false),(AV.int .i64 (i))]) 164 4 true)))))))))))))))))
 ((((((YT.j y:Nat):Int):Int) < (n)) -> False)/\
 ((Rf (TV.v (AV.int .i64 (n))))/\
 ((Rf (TV.l 3 0))/\
 ((Rf (TV.l 6 0))/\
 (((TV.v (AV.slice 1 [] Cap.full)) = (TV.v (YT.ov y)))/\
 ((Rf [(AV.rslice (YT.id y) 0 (YT.n y)),(tv),(AV.int .i64 ((w:Nat):Int)),(AV.int .i64 ((p:Nat):Int))])/\
 ((Rf [AV.nilslice,AV.nilslice,(AV.int .i64 0),(AV.int .i64 0)])/\
 (State.Le (y.1) (y.1))))))))))):=by kernel_rfl
theorem vc50r (B:Nat) (w0:World) (G:Nat -> AV) (i n:Int) (w p:Nat) (tv:AV) (oid on:Nat) (P:YT -> Prop) (y:YT):(wpX [] (EV B w0 G) (H0 (EV B w0 G)) (fun _ _ _ _ => False) (annA 50) (N50l true) (bodyOf (fnPart Tryz.prog [] 50 0)) ((ls50 i n w p tv P).post y) (frm [(1,.v (.int .i64 i)),(2,.v (.int .i64 n)),(3,.l 3 0),(6,.l 6 0),(9,.v (.rslice oid 0 on)),(10,.v (.int .i64 (y.j:Int)))] (FL50 w p tv y)) y.σ) =
 ((bcase (decide ((((YT.j y:Nat):Int):Int) < (n)))
 (∃ a0:OE,(((State.objs (y.1) (oid)) = (AObj.cells (OE.cs a0) 3 1 (OE.g a0)))/\
 ((((0:Nat) = 0)/\
 (((((((on) + 1) * 8):Nat) <= 140737488355328)/\
 ((((on) + 1):Nat) <= 4611686018427387904))/\
 ((((on) * 1):Nat) <= (List.length (OE.cs a0)))))/\
 (∃ a1:OE,(((State.objs (State.new (State.set (y.1) (oid) AObj.dead) (AObj.cells ((List.take ((on) * 1) (OE.cs a0)) ++ [(AV.int .i64 ((YT.n y:Nat):Int))]) 3 1 true)) (YT.id y)) = (AObj.cells (OE.cs a1) 164 4 (OE.g a1)))/\
 ((((0:Nat) = 0)/\
 (((((((YT.n y) + 1) * 40):Nat) <= 140737488355328)/\
 ((((YT.n y) + 1):Nat) <= 4611686018427387904))/\
 ((((YT.n y) * 4):Nat) <= (List.length (OE.cs a1)))))/\
 (∃ x'2:YT,(((P (x'2))/\
 (((LS.μ (ls50 i n w p tv P) x'2):Nat) < (LS.μ (ls50 i n w p tv P) y)))/\
 ((Rf (TV.v (AV.int .i64 (i))))/\
 ((Rf (TV.v (AV.int .i64 (n))))/\
 ((Rf (TV.l 3 0))/\
 ((Rf (TV.l 6 0))/\
 (((TV.v (AV.rslice (State.next (y.1)) 0 ((on) + 1))) = (TV.v (YT.ov x'2)))/\
 (((TV.v (AV.int .i64 (IntKind.wrap .i64 (((YT.j y:Nat):Int) + 1)))) = (TV.v (AV.int .i64 ((YT.j x'2:Nat):Int))))/\
 (([(AV.rslice ((State.next (y.1)) + 1) 0 ((YT.n y) + 1)),(tv),(AV.int .i64 ((w:Nat):Int)),(AV.int .i64 ((p:Nat):Int))] = [(AV.rslice (YT.id x'2) 0 (YT.n x'2)),(tv),(AV.int .i64 ((w:Nat):Int)),(AV.int .i64 ((p:Nat):Int))])/\
 ((Rf [AV.nilslice,AV.nilslice,(AV.int .i64 0),(AV.int .i64 0)])/\
 (State.Le ((ls50 i n w p tv P).3 x'2) (State.new (State.set (State.new (State.set (y.1) (oid) AObj.dead) (AObj.cells ((List.take ((on) * 1) (OE.cs a0)) ++ [(AV.int .i64 ((YT.n y:Nat):Int))]) 3 1 true)) (YT.id y) AObj.dead) (AObj.cells ((List.take ((YT.n y) * 4) (OE.cs a1)) ++ [AV.nilslice,(AV.bool true),(AV.bool false),(AV.int .i64 (i))]) 164 4 true)))))))))))))))))))
 ((((((YT.j y:Nat):Int):Int) < (n)) -> False)/\
 ((Rf (TV.v (AV.int .i64 (n))))/\
 ((Rf (TV.l 3 0))/\
 ((Rf (TV.l 6 0))/\
 (((TV.v (AV.rslice (oid) 0 (on))) = (TV.v (YT.ov y)))/\
 ((Rf [(AV.rslice (YT.id y) 0 (YT.n y)),(tv),(AV.int .i64 ((w:Nat):Int)),(AV.int .i64 ((p:Nat):Int))])/\
 ((Rf [AV.nilslice,AV.nilslice,(AV.int .i64 0),(AV.int .i64 0)])/\
 (State.Le (y.1) (y.1))))))))))):=by kernel_rfl
structure GT where
 w:Nat
 p:Nat
 tv:AV
def T50 (i n:Int) (P R:GT -> YT -> Prop):LHand:=fun _ Q a σ => ∃ (g:GT) (y:YT),P g y /\ atF a ((ls50 i n g.w g.p g.tv (P g)).F y) (FL50 g.w g.p g.tv y) (y.σ.Le σ) /\
 ∀ y':YT,R g y' -> Q (.exit 0) (frm (F50 n y') (FL50 g.w g.p g.tv y')) y'.σ
def H50 (E:Env):Hand:=hnd E annA noHints [(93,C93r),(94,C94r),(95,C95r)]
def N50:FnHint:=hAt [(8,3,hE4),(8,5,hE4)]
theorem vc50 (B:Nat) (w0:World) (G:Nat -> AV) (m:RM) (i n:Int) (P R:GT -> YT -> Prop) (Q:AV -> State -> Prop):(bodyX [] (EV B w0 G) (H50 (EV B w0 G)) (T50 i n P R) annA N50 50 [.agg [.slice 4 (rL m.I) .any,.slice 1 (intsV m.turn) .any,.int .i64 (m.work:Int),.int .i64 (m.puts:Int)],.int .i64 i,.int .i64 n] noObj Q) =
 ((∃ m0:RM,(∃ i1:Int,(([(AV.agg [(AV.slice 4 (rL (RM.I m)) Cap.any),(AV.slice 1 (intsV (RM.turn m)) Cap.any),(AV.int .i64 ((RM.work m:Nat):Int)),(AV.int .i64 ((RM.puts m:Nat):Int))]),(AV.int .i64 (i))] = [(AV.agg [(AV.slice 4 (rL (RM.I m0)) Cap.any),(AV.slice 1 (intsV (RM.turn m0)) Cap.any),(AV.int .i64 ((RM.work m0:Nat):Int)),(AV.int .i64 ((RM.puts m0:Nat):Int))]),(AV.int .i64 (i1))])/\
 (bcase (!(Option.isSome (RM.opened m0 i1)))
 (Q (AV.tuple [(AV.agg [(AV.slice 4 (rL (RM.I m)) Cap.any),(AV.slice 1 (intsV (RM.turn m)) Cap.any),(AV.int .i64 ((RM.work m:Nat):Int)),(AV.int .i64 ((RM.puts m:Nat):Int))]),AV.nilslice,(AV.int .i64 90)]) (noObj))
 (bcase (decide (((n):Int) < 0))
 (Q (AV.tuple [(AV.agg [(AV.slice 4 (rL (RM.I m)) Cap.any),(AV.slice 1 (intsV (RM.turn m)) Cap.any),(AV.int .i64 ((RM.work m:Nat):Int)),(AV.int .i64 ((RM.puts m:Nat):Int))]),AV.nilslice,(AV.int .i64 1)]) (noObj))
 (bcase (decide (((n):Int) > 64))
 (Q (AV.tuple [(AV.agg [(AV.slice 4 (rL (RM.I m)) Cap.any),(AV.slice 1 (intsV (RM.turn m)) Cap.any),(AV.int .i64 ((RM.work m:Nat):Int)),(AV.int .i64 ((RM.puts m:Nat):Int))]),AV.nilslice,(AV.int .i64 1)]) (noObj))
 (bcase (decide (((IntKind.wrap .i64 ((((List.length (rL (RM.I m))):Nat):Int) + (n))):Int) > 4096))
 (Q (AV.tuple [(AV.agg [(AV.slice 4 (rL (RM.I m)) Cap.any),(AV.slice 1 (intsV (RM.turn m)) Cap.any),(AV.int .i64 ((RM.work m:Nat):Int)),(AV.int .i64 ((RM.puts m:Nat):Int))]),AV.nilslice,(AV.int .i64 2)]) (noObj))
 (∃ m2:RM,(∃ c3:MH,(([(AV.agg [(AV.slice 4 (rL (RM.I m)) Cap.any),(AV.slice 1 (intsV (RM.turn m)) Cap.any),(AV.int .i64 ((RM.work m:Nat):Int)),(AV.int .i64 ((RM.puts m:Nat):Int))])] = [(AV.agg [(AV.slice 4 (rL (RM.I m2)) Cap.any),(AV.slice 1 (intsV (RM.turn m2)) Cap.any),(AV.int .i64 ((RM.work m2:Nat):Int)),(AV.int .i64 ((RM.puts m2:Nat):Int))])])/\
 (((At c3 (noObj))/\
 ((((List.length (RM.I m2)):Nat) <= 5000)/\
 ((((List.length (RM.turn m2)):Nat) <= 5000)/\
 ((RM.I m2) ≠ []))))/\
 (∀ id4:Nat,(∀ g5:Bool,(∀ tv6:AV,(∀ c'7:MH,(∀ σ'8:State,(((At c'7 σ'8)/\
 (((c'7 MRole.ins) = (Option.some (Prod.mk (id4) (AObj.cells (flat (rL (RM.I m2))) 164 4 (g5)))))/\
 ((SlAt c'7 MRole.turn 3 1 tv6 (intsV (RM.turn m2)))/\
 (∀ q9:MRole,(((q9 ∈ [MRole.ins,MRole.turn]) -> False) -> ((c'7 q9) = (c3 q9))))))) -> (bcase (true && (true && ((true && ((AV.one (tv6)) && (true && (true && true)))) && true)))
 (∃ a9:OE,(((State.objs σ'8 (id4)) = (AObj.cells (OE.cs a9) 164 4 (OE.g a9)))/\
 ((((0:Int) <= (i))/\
 (((i):Int) < (((List.length (RM.I m2)):Nat):Int)))/\
 (∃ a10:OE,(((State.objs σ'8 (id4)) = (AObj.cells (OE.cs a10) 164 4 (OE.g a10)))/\
 (((((((0 + (Int.toNat (i))) * 4) + 1) + 1):Nat) <= (List.length (OE.cs a10)))/\
 (∃ g11:GT,(∃ y12:YT,((P (g11) (y12))/\
 (((Rf (TV.v (AV.int .i64 (i))))/\
 ((Rf (TV.v (AV.int .i64 (n))))/\
 ((Rf (TV.l 3 0))/\
 ((Rf (TV.l 6 0))/\
 (((TV.v (AV.slice 1 [] Cap.full)) = (TV.v (YT.ov y12)))/\
 (((TV.v (AV.int .i64 0)) = (TV.v (AV.int .i64 ((YT.j y12:Nat):Int))))/\
 (([(AV.rslice (id4) 0 (List.length (RM.I m2))),(tv6),(AV.int .i64 ((RM.work m2:Nat):Int)),(AV.int .i64 ((RM.puts m2:Nat):Int))] = [(AV.rslice (YT.id y12) 0 (YT.n y12)),(GT.tv g11),(AV.int .i64 ((GT.w g11:Nat):Int)),(AV.int .i64 ((GT.p g11:Nat):Int))])/\
 ((Rf [AV.nilslice,AV.nilslice,(AV.int .i64 0),(AV.int .i64 0)])/\
 (State.Le (y12.1) (State.set σ'8 (id4) (AObj.cells (asplice (OE.cs a10) (((0 + (Int.toNat (i))) * 4) + 1) [(AV.bool false)]) 164 4 (OE.g a10))))))))))))/\
 (∀ y'13:YT,((R (g11) (y'13)) -> (∃ m14:RM,(∃ c15:MH,(∃ id16:Nat,(∃ g17:Bool,(∃ tv18:AV,(∃ qs19:List AV,(([(AV.agg [(AV.rslice (YT.id y'13) 0 (YT.n y'13)),(GT.tv g11),(AV.int .i64 (IntKind.wrap .i64 (((GT.w g11:Nat):Int) + (IntKind.wrap .i64 (1 + (n)))))),(AV.int .i64 ((GT.p g11:Nat):Int))])] = [(AV.agg [(AV.rslice (id16) 0 (List.length (RM.I m14))),(tv18),(AV.int .i64 ((RM.work m14:Nat):Int)),(AV.int .i64 ((RM.puts m14:Nat):Int))])])/\
 (((At c15 (y'13.1))/\
 (((c15 MRole.ins) = (Option.some (Prod.mk (id16) (AObj.cells (flat (rLq qs19 (RM.I m14))) 164 4 (g17)))))/\
 (((((tv18) = AV.nilslice)/\
 ((intsV (RM.turn m14)) = [])) \/ (∃ id20:Nat,(∃ off21:Nat,(∃ n22:Nat,(∃ g23:Bool,(∃ pre24:List AV,(((tv18) = (AV.rslice (id20) (off21) (n22)))/\
 (((c15 MRole.turn) = (Option.some (Prod.mk (id20) (AObj.cells ((pre24) ++ (intsV (RM.turn m14))) 3 1 (g23)))))/\
 ((((List.length (pre24)):Nat) = ((off21) * 1))/\
 (((List.length (intsV (RM.turn m14))):Nat) = ((n22) * 1)))))))))))/\
 ((((List.length (RM.I m14)):Nat) <= 5000)/\
 ((((List.length (RM.turn m14)):Nat) <= 5000)/\
 ((∀ i20:Nat,((((i20):Nat) < (List.length (RM.I m14))) -> (((RI.fr (RM.at m14 i20)) = false) -> (((0:Int) <= (RI.bh (RM.at m14 i20)))/\
 (((RI.bh (RM.at m14 i20)):Int) < ((i20:Nat):Int))))))/\
 (QsOk qs19 m14)))))))/\
 (∀ tv'20:AV,(∀ c'21:MH,(∀ σ'22:State,(((At c'21 σ'22)/\
 (((c'21 MRole.ins) = (Option.some (Prod.mk (id16) (AObj.cells (flat (rLq qs19 (RM.I (RM.fresh m14)))) 164 4 (g17)))))/\
 (((((tv'20) = AV.nilslice)/\
 ((intsV (RM.turn (RM.fresh m14))) = [])) \/ (∃ id23:Nat,(∃ off24:Nat,(∃ n25:Nat,(∃ g26:Bool,(∃ pre27:List AV,(((tv'20) = (AV.rslice (id23) (off24) (n25)))/\
 (((c'21 MRole.turn) = (Option.some (Prod.mk (id23) (AObj.cells ((pre27) ++ (intsV (RM.turn (RM.fresh m14)))) 3 1 (g26)))))/\
 ((((List.length (pre27)):Nat) = ((off24) * 1))/\
 (((List.length (intsV (RM.turn (RM.fresh m14)))):Nat) = ((n25) * 1)))))))))))/\
 ((∀ q23:MRole,(((q23 ∈ [MRole.ins,MRole.turn]) -> False) -> ((c'21 q23) = (c15 q23))))/\
 (((tv18) ≠ AV.nilslice) -> ((tv'20) ≠ AV.nilslice)))))) -> (bcase (true && (true && ((true && ((AV.one (tv'20)) && (true && (true && true)))) && true)))
 (Q (AV.tuple [(AV.agg [(AV.rslice (id16) 0 (List.length (RM.I m14))),(tv'20),(AV.int .i64 ((RM.work m14:Nat):Int)),(AV.int .i64 ((RM.puts m14:Nat):Int))]),(YT.ov y'13),(AV.int .i64 0)]) σ'22)
 False)))))))))))))))))))))))))
 False))))))))))))))))))):=by kernel_rfl
end Go.V
/- The reference's New, Split, over values. -/
set_option linter.unusedSimpArgs false
set_option linter.unusedSectionVars false
namespace Go.V
open Go Go.Proofs

def C49v:Contract:=fun args σ K => ∃ (n:Int),args = [.int .i64 n] /\ ((0 <= n /\ n <= 64 -> K (.tuple [rmV (RM.new n.toNat),.int .i64 0]) σ.untok) /\ (¬ (0 <= n /\ n <= 64) -> K (.tuple [rmV ⟨[],[],0,0⟩,.int .i64 1]) σ.untok))
def C50v:Contract:=fun args σ K => ∃ (m:RM) (i n:Int),args = [rmV m,.int .i64 i,.int .i64 n] /\ m.Wf /\ K (.tuple [rmV (m.split i n).1,.slice 1 (intsV (m.split i n).2.1) .any,.int .i64 (m.split i n).2.2]) σ.untok

theorem rLq_snoc:∀ {qs:List AV} {l:List RI} {v:AV} {x:RI},qs.length = l.length -> flat (rLq (qs ++ [v]) (l ++ [x])) = flat (rLq qs l) ++ rcl v x
 | [],[],v,x,_ => by
  show flat [.agg (rcl v x)] = _
  simp [flat,AV.cells,rLq]
 | q :: qs,y :: l,v,x,h => by
  show flat (.agg (rcl q y) :: rLq (qs ++ [v]) (l ++ [x])) = flat (.agg (rcl q y) :: rLq qs l) ++ _
  rw [flat_cons,flat_cons,rLq_snoc (by simpa using h),List.append_assoc]
 | [],y :: l,v,x,h => by simp at h
 | q :: qs,[],v,x,h => by simp at h

def OvAt (c:MH) (r:MRole) (v:AV) (l:List Nat):Prop:=(v = .slice 1 [] .full /\ l = []) \/ ∃ (id:Nat) (g:Bool),v = .rslice id 0 l.length /\ c r = some (id,.cells (intsV l) 3 1 g)
theorem OvAt.one {c:MH} {r:MRole} {v:AV} {l:List Nat} (h:OvAt c r v l):v.one = true:=by
 rcases h with ⟨rfl,_⟩ | ⟨id,g,rfl,_⟩ <;> rfl
theorem OvAt.congr {c c':MH} {r:MRole} {v:AV} {l:List Nat} (h:OvAt c r v l) (hc:c' r = c r):OvAt c' r v l:=by
 rcases h with h | ⟨id,g,h1,h2⟩
 ·exact .inl h
 ·exact .inr ⟨id,g,h1,hc.trans h2⟩
theorem OvAt.deep {c:MH} {σ:State} {r:MRole} {v:AV} {l:List Nat} (hA:At c σ) (h:OvAt c r v l) (n:Nat):∃ v',deep Tryz.prog σ (n + 2) v = some v' /\ Wk v' (.slice 1 (intsV l) .any):=by
 rcases h with ⟨rfl,rfl⟩ | ⟨id,g,rfl,h⟩
 ·exact ⟨.slice 1 [] .full,rfl,Wk.slice 1 _ _⟩
 ·exact deep_ints hA (.inr ⟨id,0,l.length,g,[],rfl,h,by simp,by rw [intsV_len]; omega⟩) n
theorem ints_noId (l:List Nat):NoId (.slice 1 (intsV l) .any):=.slice (by simp) (intsV_noId l)

structure IR49 (n:Nat) (y:YR):Prop where
 at_:At y.c y.σ
 ins:SlAt y.c .ins 164 4 y.iv (flat (rLq (List.replicate y.i .nilslice) (List.replicate y.i ⟨[],true,true,-1⟩)))
 i:y.i <= n
theorem flat_rLq_rep (n:Nat) (x:RI):(flat (rLq (List.replicate n .nilslice) (List.replicate n x))).length = n * 4:=by
 rw [flat_rLq_len (by simp),List.length_replicate]
theorem rep_succ {α:Type} (n:Nat) (a:α):List.replicate (n + 1) a = List.replicate n a ++ [a]:=List.replicate_succ'

section
variable {B:Nat} {w0:World} {G:Nat -> AV}
theorem loop49 {n:Nat} (hn:n <= 64) {y0:YR} (h0:IR49 n y0) (Q:Post) (a:AAct) (σ:State) (ha:atF a ((ls49 (n:Int) (IR49 n)).F y0) ((ls49 (n:Int) (IR49 n)).FL y0) (y0.σ.Le σ))
  (hQ:∀ y':YR,(IR49 n y' /\ y'.i = n) -> Q (.exit 0) (frm [(2,.l 2 0),(4,.l 4 0)] [(2,[.nilslice,.nilslice,.int .i64 0,.int .i64 0]),(4,[y'.iv,.nilslice,.int .i64 (n:Int),.int .i64 0])]) y'.σ) :
  AWp (EV B w0 G) none (fnTmps Tryz.prog 49) (.loop (bodyOf (fnPart Tryz.prog [] 49 0))) Q a σ:=by
 refine awp_loopS (ls49 (n:Int) (IR49 n)) (x0:=y0) (fun y hI => ?_) (fun y hI e a σ hne kk => ?_) h0 ha
 ·have hI:IR49 n y:=hI
  show AWp _ _ _ _ _ (frm [(0,.v (.int .i64 (n:Int))),(2,.l 2 0),(4,.l 4 0),(5,.v (.int .i64 (y.i:Int)))] [(2,[.nilslice,.nilslice,.int .i64 0,.int .i64 0]),(4,[y.iv,.nilslice,.int .i64 (n:Int),.int .i64 0])]) y.σ
  have hi:=hI.i
  have w1:IntKind.wrap .i64 ((y.i:Int) + 1) = ((y.i + 1:Nat):Int):=by rw [wr_small (by omega) (by omega)]; omega
  have hμ:y.i < n -> (n:Int).toNat - (y.i + 1) < (n:Int).toNat - y.i:=fun h => by omega
  have hsn:flat (rLq (List.replicate (y.i + 1) .nilslice) (List.replicate (y.i + 1) ⟨[],true,true,-1⟩)) = flat (rLq (List.replicate y.i .nilslice) (List.replicate y.i ⟨[],true,true,-1⟩)) ++ [.nilslice,.bool true,.bool true,.int .i64 (-1)]:=by
   rw [rep_succ,rep_succ,rLq_snoc (by simp)]; rfl
  rcases hI.ins.inv with ⟨e,hnil⟩ | ⟨id,k,g,e,hs,hl⟩
  ·rw [e]
   refine wpX_ok H0_ok (EV_mixed B w0 G) (L:=fun _ _ _ _ => False) _ _ _ _ (fun p hp hc Q a σ k => k.elim) (by kernel_rfl) ((vc49n B w0 G (n:Int) _ y).mpr (bcase_of (fun h => ?_) (fun h => ⟨fun h2 => by have h:=of_decide_eq_false h; omega,rfl,rfl,rfl,by rw [e],.refl _⟩)))
   have h:y.i < n:=by have:=of_decide_eq_true h; omega
   refine ⟨⟨by decide,by decide⟩,⟨y.σ.new (.cells [.nilslice,.bool true,.bool true,.int .i64 (-1)] 164 4 true),hup y.c .ins (some (y.σ.next,_)),.rslice y.σ.next 0 1,.nilslice,y.i + 1⟩,⟨⟨hI.at_.new .ins _,?_,h⟩,hμ h⟩,rfl,rfl,rfl,by rw [w1],rfl,rfl,.refl _⟩
   dsimp only
   rw [hsn,hnil]
   exact .row _ 1 true _ hup_self rfl
  ·rw [e]
   rw [flat_rLq_rep] at hl
   have hk:k = y.i:=by omega
   subst hk
   have ho:=hI.at_.obj hs
   have htake:List.take (y.i * 4) (flat (rLq (List.replicate y.i .nilslice) (List.replicate y.i ⟨[],true,true,-1⟩))) = flat (rLq (List.replicate y.i .nilslice) (List.replicate y.i ⟨[],true,true,-1⟩)):=List.take_of_length_le (by rw [flat_rLq_rep]; exact Nat.le_refl _)
   refine wpX_ok H0_ok (EV_mixed B w0 G) (L:=fun _ _ _ _ => False) _ _ _ _ (fun p hp hc Q a σ k => k.elim) (by kernel_rfl) ((vc49r B w0 G (n:Int) id y.i _ y).mpr (bcase_of (fun h => ?_) (fun h => ⟨fun h2 => by have h:=of_decide_eq_false h; omega,rfl,rfl,rfl,by rw [e],.refl _⟩)))
   have h:y.i < n:=by have:=of_decide_eq_true h; omega
   refine ⟨⟨flat (rLq (List.replicate y.i .nilslice) (List.replicate y.i ⟨[],true,true,-1⟩)),g⟩,ho,⟨rfl,⟨by omega,by omega⟩,by rw [flat_rLq_rep]; exact Nat.le_refl _⟩,?_⟩
   dsimp only
   rw [htake]
   refine ⟨⟨(y.σ.set id .dead).new (.cells (flat (rLq (List.replicate y.i .nilslice) (List.replicate y.i ⟨[],true,true,-1⟩)) ++ [.nilslice,.bool true,.bool true,.int .i64 (-1)]) 164 4 true),hup y.c .ins (some (y.σ.next,_)),.rslice y.σ.next 0 (y.i + 1),.nilslice,y.i + 1⟩,⟨⟨hI.at_.grow hs _,?_,h⟩,hμ h⟩,rfl,rfl,rfl,by rw [w1],rfl,rfl,.refl _⟩
   dsimp only
   rw [hsn]
   exact .row _ (y.i + 1) true _ hup_self (by rw [List.length_append,flat_rLq_rep]; show y.i * 4 + 4 = _; omega)
 ·cases e with
  | exit i =>
   match i,kk with
   | 0,kk =>
    have hI:IR49 n y:=hI
    exact ⟨_,_,(atF_ok kk.2).1,(atF_ok kk.2).2,hQ y ⟨hI,by have:=hI.i; have:=kk.1; omega⟩⟩
  | normal => exact absurd rfl hne
  | _ => exact kk.elim

theorem c49_ok (hG:∀ i,NoId (G i)):ContractOk (EV B w0 G) 49 C49v:=by
 rintro args σ Q ⟨n,rfl,hQ1,hQ2⟩
 have hna:∀ x ∈ [AV.int .i64 n],NoId x:=fun y hy => by
  simp only [List.mem_cons,List.not_mem_nil,or_false] at hy
  subst hy; exact .int _ _
 have hbad:∀ σ',DAt σ' (.agg [.nilslice,.nilslice,.int .i64 0,.int .i64 0]) ⟨[],[],0,0⟩:=fun σ' k hk => by
  obtain ⟨k,rfl⟩:∃ j,k = j + 3:=⟨k - 3,by omega⟩
  exact ⟨_,rfl,Wk.agg (.cons (Wk.nil 4) (.cons (Wk.nil 1) (.refl _)))⟩
 by_cases hn:0 <= n /\ n <= 64
 ·refine pureRd hG hna ?_ (hQ1 hn)
  obtain ⟨k,rfl⟩:∃ k:Nat,n = (k:Int):=⟨n.toNat,by omega⟩
  refine bodyX_ok (cuts:=[]) (EV_mixed B w0 G) H0_ok (fun lp hl _ Q a σ kk => ?_) ((vc49 B w0 G (k:Int) (IR49 k) (fun y => IR49 k y /\ y.i = k) _).mpr (bcase_of (fun h => by have:=of_decide_eq_true h; omega) (fun _ => bcase_of (fun h => by have:=of_decide_eq_true h; omega) (fun _ => ?_))))
  ·change lp ∈ fnParts Tryz.prog [] 49 at hl
   rw [fnParts_49] at hl
   simp only [List.mem_cons,List.not_mem_nil,or_false] at hl
   subst hl
   obtain ⟨y,hI,ha,hq⟩:=kk
   exact loop49 (by omega) hI Q a σ ha hq
  refine ⟨⟨noObj,noneH,.nilslice,.nilslice,0⟩,⟨noneH_at _,.nil,Nat.zero_le _⟩,⟨rfl,rfl,rfl,rfl,rfl,rfl,.refl _⟩,fun y' ⟨hI,hy⟩ => ?_⟩
  have hins:=hI.ins
  have h1:=hins.one
  refine bcase_of (fun _ => ⟨_,rfl,?_⟩) (fun h => by rw [h1] at h; cases h)
  rw [hy] at hins
  rcases hins.inv with ⟨e,hnil⟩ | ⟨id,j,g,e,hs,hl⟩
  ·rw [e]
   have hk0:k = 0:=by
    have:=congrArg List.length hnil
    rw [flat_rLq_rep] at this
    simp at this; omega
   subst hk0
   intro j hj
   obtain ⟨j,rfl⟩:∃ i,j = i + 3:=⟨j - 3,by omega⟩
   exact ⟨_,rfl,Wk.agg (.cons (Wk.nil 4) (.cons (Wk.nil 1) (.refl _)))⟩
  ·rw [e]
   rw [flat_rLq_rep] at hl
   have hjk:j = k:=by omega
   subst hjk
   refine RAt2.d ⟨y'.c,id,g,.nilslice,List.replicate j .nilslice,?_,⟨by simp [RM.new],fun i hi => .inl (.inr ⟨?_,?_⟩)⟩,hI.at_,hs,.inl ⟨rfl,rfl⟩⟩
   ·simp [RM.new]
   ·simp [RM.new] at hi
    simp [List.getD,hi]
   ·simp [RM.new]
 ·refine pureRd hG hna ?_ (hQ2 hn)
  refine bodyX_ok (cuts:=[]) (EV_mixed B w0 G) H0_ok (fun lp hl _ Q a σ kk => ?_) ((vc49 B w0 G n (fun _ => False) (fun _ => False) _).mpr (bcase_of (fun h => ⟨_,rfl,hbad _⟩) (fun h1 => bcase_of (fun h => ⟨_,rfl,hbad _⟩) (fun h2 => by have:=of_decide_eq_false h1; have:=of_decide_eq_false h2; omega))))
  obtain ⟨y,hI,ha,hq⟩:=kk
  exact hI.elim
end
end Go.V
/- The reference's Split, over values. -/
namespace Go.V
open Go Go.Proofs

structure IT50 (m:RM) (k:Nat) (n:Nat) (tv:AV) (y:YT):Prop where
 at_:At y.c y.σ
 ins:∃ g,y.c .ins = some (y.id,.cells (flat (rLq (sliceQ m.I ++ List.replicate y.j .nilslice) ((m.shut k).split1 k y.j).I)) 164 4 g)
 turn:SlAt y.c .turn 3 1 tv (intsV m.turn)
 ov:OvAt y.c (.x 0) y.ov (List.range' m.I.length y.j)
 len:y.n = m.I.length + y.j
 j:y.j <= n
theorem split1_succ (m:RM) (k j:Nat):(m.split1 k (j + 1)).I = (m.split1 k j).I ++ [⟨[],true,false,(k:Int)⟩]:=by
 show m.I ++ List.replicate (j + 1) _ = (m.I ++ List.replicate j _) ++ _
 rw [rep_succ,List.append_assoc]
theorem shut_len (m:RM) (k:Nat):(m.shut k).I.length = m.I.length:=List.length_set
theorem split_rq_len (m:RM) (k j:Nat):(sliceQ m.I ++ List.replicate j AV.nilslice).length = ((m.shut k).split1 k j).I.length:=by
 rw [split1_len,shut_len,List.length_append,sliceQ_len,List.length_replicate]
theorem split_rq_snoc (m:RM) (k j:Nat):flat (rLq (sliceQ m.I ++ List.replicate (j + 1) .nilslice) ((m.shut k).split1 k (j + 1)).I) = flat (rLq (sliceQ m.I ++ List.replicate j .nilslice) ((m.shut k).split1 k j).I) ++ [.nilslice,.bool true,.bool false,.int .i64 (k:Int)]:=by
 rw [split1_succ,rep_succ,<-List.append_assoc,rLq_snoc (split_rq_len m k j)]; rfl
theorem range'_snoc (a n:Nat):List.range' a (n + 1) = List.range' a n ++ [a + n]:=by
 rw [List.range'_1_concat]

section
variable {B:Nat} {w0:World} {G:Nat -> AV}
theorem H50_ok:HOk1 (EV B w0 G) (H50 (EV B w0 G)):=hnd_ok (EV_mixed B w0 G) (contracts_cons c93_ok (contracts_cons c94_ok (contracts_cons c95_ok contracts_nil)))

theorem loop50 {m:RM} {k n w p:Nat} {tv:AV} (hl5:m.I.length <= 5000) (hn:n <= 64) {y0:YT} (h0:IT50 m k n tv y0) (Q:Post) (a:AAct) (σ:State) (ha:atF a ((ls50 (k:Int) (n:Int) w p tv (IT50 m k n tv)).F y0) (FL50 w p tv y0) (y0.σ.Le σ))
  (hQ:∀ y':YT,(IT50 m k n tv y' /\ y'.j = n) -> Q (.exit 0) (frm (F50 (n:Int) y') (FL50 w p tv y')) y'.σ) :
  AWp (EV B w0 G) none (fnTmps Tryz.prog 50) (.loop (bodyOf (fnPart Tryz.prog [] 50 0))) Q a σ:=by
 refine awp_loopS (ls50 (k:Int) (n:Int) w p tv (IT50 m k n tv)) (x0:=y0) (fun y hI => ?_) (fun y hI e a σ hne kk => ?_) h0 ha
 ·have hI:IT50 m k n tv y:=hI
  show AWp _ _ _ _ _ (frm [(1,.v (.int .i64 (k:Int))),(2,.v (.int .i64 (n:Int))),(3,.l 3 0),(6,.l 6 0),(9,.v y.ov),(10,.v (.int .i64 (y.j:Int)))] (FL50 w p tv y)) y.σ
  have hj:=hI.j
  have hn':=hI.len
  have w1:IntKind.wrap .i64 ((y.j:Int) + 1) = ((y.j + 1:Nat):Int):=by rw [wr_small (by omega) (by omega)]; omega
  have hμ:y.j < n -> (n:Int).toNat - (y.j + 1) < (n:Int).toNat - y.j:=fun h => by omega
  obtain ⟨g,hins⟩:=hI.ins
  have hlen:(flat (rLq (sliceQ m.I ++ List.replicate y.j .nilslice) ((m.shut k).split1 k y.j).I)).length = y.n * 4:=by rw [flat_rLq_len (split_rq_len m k y.j),split1_len,shut_len,hn']
  have htake:List.take (y.n * 4) (flat (rLq (sliceQ m.I ++ List.replicate y.j .nilslice) ((m.shut k).split1 k y.j).I)) = flat (rLq (sliceQ m.I ++ List.replicate y.j .nilslice) ((m.shut k).split1 k y.j).I):=List.take_of_length_le (by omega)
  rcases hI.ov with ⟨e,hnil⟩ | ⟨oid,og,e,hs⟩
  ·rw [e]
   refine wpX_ok H0_ok (EV_mixed B w0 G) (L:=fun _ _ _ _ => False) _ _ _ _ (fun p hp hc Q a σ k => k.elim) (by kernel_rfl) ((vc50n B w0 G (k:Int) (n:Int) w p tv _ y).mpr (bcase_of (fun h => ?_) (fun h => ⟨fun h2 => by have h:=of_decide_eq_false h; omega,rfl,rfl,rfl,by rw [e],rfl,rfl,.refl _⟩)))
   have h:y.j < n:=by have:=of_decide_eq_true h; omega
   have hj0:y.j = 0:=by have:=congrArg List.length hnil; simpa using this
   have hA1:=hI.at_.new (.x 0) (.cells [.int .i64 (y.n:Int)] 3 1 true)
   have hins1:hup y.c (.x 0) (some (y.σ.next,.cells [.int .i64 (y.n:Int)] 3 1 true)) .ins = some (y.id,.cells (flat (rLq (sliceQ m.I ++ List.replicate y.j .nilslice) ((m.shut k).split1 k y.j).I)) 164 4 g):=(hup_ne (by simp)).trans hins
   refine ⟨⟨by decide,by decide⟩,⟨flat (rLq (sliceQ m.I ++ List.replicate y.j .nilslice) ((m.shut k).split1 k y.j).I),g⟩,hA1.obj hins1,⟨rfl,⟨by omega,by omega⟩,by dsimp only; omega⟩,?_⟩
   dsimp only
   rw [htake]
   obtain ⟨c2,b1,b2,b3,b4⟩:∃ c2:MH,At c2 (((y.σ.new (.cells [.int .i64 (y.n:Int)] 3 1 true)).set y.id .dead).new (.cells (flat (rLq (sliceQ m.I ++ List.replicate y.j .nilslice) ((m.shut k).split1 k y.j).I) ++ [.nilslice,.bool true,.bool false,.int .i64 (k:Int)]) 164 4 true)) /\ c2 .ins = some (y.σ.next + 1,.cells (flat (rLq (sliceQ m.I ++ List.replicate y.j .nilslice) ((m.shut k).split1 k y.j).I) ++ [.nilslice,.bool true,.bool false,.int .i64 (k:Int)]) 164 4 true) /\ c2 .turn = y.c .turn /\ c2 (.x 0) = some (y.σ.next,.cells [.int .i64 (y.n:Int)] 3 1 true) :=
    ⟨_,hA1.grow hins1 _,hup_self,(hup_ne (by simp)).trans (hup_ne (by simp)),(hup_ne (by simp)).trans hup_self⟩
   refine ⟨⟨_,c2,.rslice y.σ.next 0 1,y.σ.next + 1,y.n + 1,y.j + 1⟩,⟨⟨b1,⟨true,?_⟩,hI.turn.congr b3,.inr ⟨y.σ.next,true,?_,?_⟩,by show y.n + 1 = _ + (y.j + 1); omega,h⟩,hμ h⟩,rfl,rfl,rfl,rfl,rfl,by rw [w1],rfl,rfl,.refl _⟩
   ·dsimp only
    rw [split_rq_snoc]; exact b2
   ·rw [List.length_range',hj0]
   ·dsimp only
    rw [range'_snoc,hnil,b4,hj0]
    show some (y.σ.next,AObj.cells [AV.int .i64 (y.n:Int)] 3 1 true) = some (y.σ.next,AObj.cells [AV.int .i64 ((m.I.length + 0:Nat):Int)] 3 1 true)
    rw [show y.n = m.I.length + 0 by omega]
  ·rw [e]
   rw [List.length_range']
   have hoo:=hI.at_.obj hs
   have hto:List.take (y.j * 1) (intsV (List.range' m.I.length y.j)) = intsV (List.range' m.I.length y.j):=List.take_of_length_le (by rw [intsV_len,List.length_range']; omega)
   refine wpX_ok H0_ok (EV_mixed B w0 G) (L:=fun _ _ _ _ => False) _ _ _ _ (fun p hp hc Q a σ k => k.elim) (by kernel_rfl) ((vc50r B w0 G (k:Int) (n:Int) w p tv oid y.j _ y).mpr (bcase_of (fun h => ?_) (fun h => ⟨fun h2 => by have h:=of_decide_eq_false h; omega,rfl,rfl,rfl,by rw [e,List.length_range'],rfl,rfl,.refl _⟩)))
   have h:y.j < n:=by have:=of_decide_eq_true h; omega
   refine ⟨⟨intsV (List.range' m.I.length y.j),og⟩,hoo,⟨rfl,⟨by omega,by omega⟩,by show _ <= (intsV (List.range' m.I.length y.j)).length; rw [intsV_len,List.length_range']; omega⟩,?_⟩
   dsimp only
   rw [hto]
   have hA1:=hI.at_.grow hs (.cells (intsV (List.range' m.I.length y.j) ++ [.int .i64 (y.n:Int)]) 3 1 true)
   have hins1:hup y.c (.x 0) (some (y.σ.next,.cells (intsV (List.range' m.I.length y.j) ++ [.int .i64 (y.n:Int)]) 3 1 true)) .ins = some (y.id,.cells (flat (rLq (sliceQ m.I ++ List.replicate y.j .nilslice) ((m.shut k).split1 k y.j).I)) 164 4 g):=(hup_ne (by simp)).trans hins
   refine ⟨⟨flat (rLq (sliceQ m.I ++ List.replicate y.j .nilslice) ((m.shut k).split1 k y.j).I),g⟩,hA1.obj hins1,⟨rfl,⟨by omega,by omega⟩,by dsimp only; omega⟩,?_⟩
   dsimp only
   rw [htake]
   obtain ⟨c2,b1,b2,b3,b4⟩:∃ c2:MH,At c2 ((((y.σ.set oid .dead).new (.cells (intsV (List.range' m.I.length y.j) ++ [.int .i64 (y.n:Int)]) 3 1 true)).set y.id .dead).new (.cells (flat (rLq (sliceQ m.I ++ List.replicate y.j .nilslice) ((m.shut k).split1 k y.j).I) ++ [.nilslice,.bool true,.bool false,.int .i64 (k:Int)]) 164 4 true)) /\ c2 .ins = some (y.σ.next + 1,.cells (flat (rLq (sliceQ m.I ++ List.replicate y.j .nilslice) ((m.shut k).split1 k y.j).I) ++ [.nilslice,.bool true,.bool false,.int .i64 (k:Int)]) 164 4 true) /\ c2 .turn = y.c .turn /\ c2 (.x 0) = some (y.σ.next,.cells (intsV (List.range' m.I.length y.j) ++ [.int .i64 (y.n:Int)]) 3 1 true) :=
    ⟨_,hA1.grow hins1 _,hup_self,(hup_ne (by simp)).trans (hup_ne (by simp)),(hup_ne (by simp)).trans hup_self⟩
   refine ⟨⟨_,c2,.rslice y.σ.next 0 (y.j + 1),y.σ.next + 1,y.n + 1,y.j + 1⟩,⟨⟨b1,⟨true,?_⟩,hI.turn.congr b3,.inr ⟨y.σ.next,true,?_,?_⟩,by show y.n + 1 = _ + (y.j + 1); omega,h⟩,hμ h⟩,rfl,rfl,rfl,rfl,rfl,by rw [w1],rfl,rfl,.refl _⟩
   ·dsimp only
    rw [split_rq_snoc]; exact b2
   ·rw [List.length_range']
   ·dsimp only
    rw [range'_snoc,b4,intsV_append,hn']; rfl
 ·cases e with
  | exit i =>
   match i,kk with
   | 0,kk =>
    have hI:IT50 m k n tv y:=hI
    exact ⟨_,_,(atF_ok kk.2).1,(atF_ok kk.2).2,hQ y ⟨hI,by have:=hI.j; have:=kk.1; omega⟩⟩
  | normal => exact absurd rfl hne
  | _ => exact kk.elim

theorem split_qs {m:RM} {k n:Nat} (hk:k < m.I.length) (hr:((m.shut k).split1 k n).Ranked):QsOk (sliceQ m.I ++ List.replicate n AV.nilslice) ((m.shut k).split1 k n):=by
 have hsl:=shut_len m k
 have hsq:∀ j,((m.shut k).at j).q = (m.at j).q:=fun j => by
  rw [RM.set_at (m:=m.shut k) (I:=m.I) rfl hk]
  split
  ·rename_i e; rw [e]
  ·rfl
 have hg:∀ j,j < m.I.length -> (sliceQ m.I ++ List.replicate n AV.nilslice).getD j .undef = .slice 4 (tcellL ((m.shut k).at j).q) .any:=fun j hj => by
  rw [hsq,<-at_get hj,<-sliceQ_get hj]
  simp only [List.getD]
  rw [List.getElem?_append_left (by rw [sliceQ_len]; exact hj)]
 refine ⟨split_rq_len m k n,fun j hj => ?_,fun j hj hf => ?_⟩
 ·rw [split1_len,hsl] at hj
  by_cases h:j < m.I.length
  ·rw [hg j h,split1_at (by omega)]; exact .inl rfl
  ·rw [split1_new (by omega) (by omega)]
   refine .inr ⟨?_,rfl⟩
   simp only [List.getD]
   rw [List.getElem?_append_right (by rw [sliceQ_len]; omega),List.getElem?_replicate,sliceQ_len,if_pos (by omega)]
   rfl
 ·have hb:=hr j hj hf
  have hj':=hj
  rw [split1_len,hsl] at hj'
  have hbl:(((m.shut k).split1 k n).at j).bh.toNat < m.I.length:=by
   by_cases h:j < m.I.length
   ·omega
   ·rw [split1_new (by omega) (by omega)]; simpa using hk
  rw [hg _ hbl,split1_at (m:=m.shut k) (j:=(((m.shut k).split1 k n).at j).bh.toNat) (by omega)]

theorem c50_ok (hG:∀ i,NoId (G i)):ContractOk (EV B w0 G) 50 C50v:=by
 rintro args σ Q ⟨m,i,n,rfl,hW,hQ⟩
 have hna:∀ y ∈ [rmV m,AV.int .i64 i,AV.int .i64 n],NoId y:=fun y hy => by
  simp only [List.mem_cons,List.not_mem_nil,or_false] at hy
  rcases hy with rfl | rfl | rfl
  ·exact rmV_noId m
  ·exact .int _ _
  ·exact .int _ _
 have hnw:∀ y ∈ [rmV (m.split i n).1,AV.slice 1 (intsV (m.split i n).2.1) .any,AV.int .i64 (m.split i n).2.2],NoId y:=fun y hy => by
  simp only [List.mem_cons,List.not_mem_nil,or_false] at hy
  rcases hy with rfl | rfl | rfl
  ·exact rmV_noId _
  ·exact ints_noId _
  ·exact .int _ _
 refine pureT hG (N:=2 * SizeOf.sizeOf (m.split i n).1.I + 11) hna hnw ?_ hQ
 have hlen:=hW.w.len
 have htl:=nd_len hW.w
 have hwk:=hW.w.work
 have fin:∀ {σ':State} {rv ov:AV} {m':RM} {l:List Nat} {e:Int},m.split i n = (m',l,e) -> DAt σ' rv m' -> (∀ j,∃ v',deep Tryz.prog σ' (j + 2) ov = some v' /\ Wk v' (.slice 1 (intsV l) .any)) ->
   ∃ vs vs',AV.tuple [rv,ov,.int .i64 e] = .tuple vs /\ vs.mapM (deep Tryz.prog σ' (2 * SizeOf.sizeOf (m.split i n).1.I + 11)) = some vs' /\ WkL vs' [rmV (m.split i n).1,.slice 1 (intsV (m.split i n).2.1) .any,.int .i64 (m.split i n).2.2]:=fun {σ' rv ov m' l e} h1 h2 h3 => by
  rw [h1]
  dsimp only
  obtain ⟨v1,a1,a2⟩:=h2 (2 * SizeOf.sizeOf m'.I + 11) (by omega)
  obtain ⟨v2,a3,a4⟩:=h3 (2 * SizeOf.sizeOf m'.I + 9)
  refine ⟨_,[v1,v2,.int .i64 e],rfl,?_,.cons a2 (.cons a4 (.refl _))⟩
  simp only [List.mapM_cons,List.mapM_nil,a1,show 2 * SizeOf.sizeOf m'.I + 11 = 2 * SizeOf.sizeOf m'.I + 9 + 2 from rfl,a3]
  rfl
 have bad:∀ {σ':State} {e:Int},m.split i n = (m,[],e) -> ∃ vs vs',AV.tuple [rmV m,.nilslice,.int .i64 e] = .tuple vs /\ vs.mapM (deep Tryz.prog σ' (2 * SizeOf.sizeOf (m.split i n).1.I + 11)) = some vs' /\ WkL vs' [rmV (m.split i n).1,.slice 1 (intsV (m.split i n).2.1) .any,.int .i64 (m.split i n).2.2]:=fun h =>
  fin h (RAt.d (.inl rfl)) fun j => ⟨_,rfl,Wk.nil 1⟩
 refine bodyX_ok (cuts:=[]) (EV_mixed B w0 G) H50_ok (fun lp hl _ Q a σ kk => ?_) ((vc50 B w0 G m i n (fun gt y => ∃ (k j:Nat),(i = (k:Int) /\ n = (j:Int) /\ j <= 64 /\ gt.w = m.work /\ gt.p = m.puts) /\ IT50 m k j gt.tv y) (fun gt y => ∃ (k j:Nat),(i = (k:Int) /\ n = (j:Int) /\ gt.w = m.work /\ gt.p = m.puts) /\ IT50 m k j gt.tv y /\ y.j = j) _).mpr ?_)
 ·change lp ∈ fnParts Tryz.prog [] 50 at hl
  rw [fnParts_50] at hl
  simp only [List.mem_cons,List.not_mem_nil,or_false] at hl
  subst hl
  obtain ⟨gt,y,⟨k,j,⟨rfl,rfl,hj,hgw,hgp⟩,hI⟩,ha,hq⟩:=kk
  exact loop50 (by omega) hj hI Q a σ ha (fun y' hy' => hq y' ⟨k,j,⟨rfl,rfl,hgw,hgp⟩,hy'⟩)
 refine ⟨m,i,rfl,bcase_of (fun h => ?_) (fun h => ?_)⟩
 ·have ho:m.opened i = none:=by
   cases ho:m.opened i with
   | none => rfl
   | some k => rw [ho] at h; cases h
  exact bad (by unfold RM.split; rw [ho])
 obtain ⟨k,ho⟩:∃ k,m.opened i = some k:=by
  cases ho:m.opened i with
  | none => rw [ho] at h; cases h
  | some k => exact ⟨k,rfl⟩
 obtain ⟨rfl,hk,hop⟩:=opened_some ho
 have hsp:m.split (k:Int) n = if n < 0 \/ 64 < n then (m,[],1) else if 4096 < (m.I.length:Int) + n then (m,[],2) else (((m.shut k).split1 k n.toNat).fresh,List.range' m.I.length n.toNat,0):=by
  unfold RM.split; rw [ho]
 refine bcase_of (fun h1 => ?_) (fun h1 => bcase_of (fun h2 => ?_) (fun h2 => bcase_of (fun h3 => ?_) (fun h3 => ?_)))
 ·have h1:=of_decide_eq_true h1
  exact bad (by rw [hsp,if_pos (.inl h1)])
 ·have h2:=of_decide_eq_true h2
  exact bad (by rw [hsp,if_pos (.inr h2)])
 all_goals
  have h1:=of_decide_eq_false h1
  have h2:=of_decide_eq_false h2
  have hw:IntKind.wrap .i64 (((rL m.I).length:Int) + n) = (m.I.length:Int) + n:=by rw [rL_len,wr_small (by omega) (by omega)]
  rw [hw] at h3
 ·have h3:=of_decide_eq_true h3
  exact bad (by rw [hsp,if_neg (by omega),if_pos h3])
 have h3:=of_decide_eq_false h3
 obtain ⟨j,rfl⟩:∃ j:Nat,n = (j:Int):=⟨n.toNat,by omega⟩
 have hsp':m.split (k:Int) (j:Int) = (((m.shut k).split1 k j).fresh,List.range' m.I.length j,0):=by
  rw [hsp,if_neg (by omega),if_neg h3,Int.toNat_natCast]
 obtain ⟨w1,w2,_,_⟩:=shut_wf hW hk hop
 have hsl:=shut_len m k
 have hko:((m.shut k).at k).op = false:=by rw [RM.set_at (m:=m.shut k) (I:=m.I) rfl hk,if_pos rfl]
 obtain ⟨v1,_,_,_⟩:=split1_wf (n:=j) w1 (by omega) hko (by omega) w2
 have hqs:=split_qs (n:=j) hk v1.ranked
 have hml:((m.shut k).split1 k j).I.length = m.I.length + j:=by rw [split1_len,hsl]
 have ww:IntKind.wrap .i64 ((m.work:Int) + IntKind.wrap .i64 (1 + (j:Int))) = (((m.shut k).split1 k j).work:Int):=by
  rw [wr_small (n:=1 + (j:Int)) (by omega) (by omega),wr_small (by omega) (by omega)]
  show (m.work:Int) + (1 + (j:Int)) = ((m.work + 1 + j:Nat):Int)
  omega
 refine ⟨m,noneH,rfl,⟨noneH_at _,by omega,by omega,fun h => by rw [h] at hk; simp at hk⟩,fun id g tv c' σ' ⟨g1,g2,g3,g4⟩ => ?_⟩
 have hone:=g3.one
 refine bcase_of (fun _ => ?_) (fun h => by rw [hone] at h; cases h)
 refine ⟨⟨flat (rL m.I),g⟩,g1.obj g2,⟨by omega,by omega⟩,⟨flat (rL m.I),g⟩,g1.obj g2,by rw [Int.toNat_natCast]; show (0 + k) * 4 + 1 + 1 <= (flat (rL m.I)).length; rw [flat_rL_len]; omega,?_⟩
 have hset:asplice (flat (rL m.I)) ((0 + Int.toNat (k:Int)) * 4 + 1) [.bool false] = flat (rLq (sliceQ m.I ++ List.replicate 0 .nilslice) ((m.shut k).split1 k 0).I):=by
  show _ = flat (rLq (sliceQ m.I ++ []) ((m.shut k).I ++ []))
  rw [List.append_nil,List.append_nil,Int.toNat_natCast,Nat.zero_add,<-rLq_slice]
  exact rset (List.length_map _) hk (by omega) (by rw [at_get hk]; rfl)
 dsimp only
 rw [hset]
 obtain ⟨c2,b1,b2,b3⟩:∃ c2:MH,At c2 (σ'.set id (.cells (flat (rLq (sliceQ m.I ++ List.replicate 0 .nilslice) ((m.shut k).split1 k 0).I)) 164 4 g)) /\ c2 .ins = some (id,.cells (flat (rLq (sliceQ m.I ++ List.replicate 0 .nilslice) ((m.shut k).split1 k 0).I)) 164 4 g) /\ c2 .turn = c' .turn:=⟨_,g1.set g2 _,hup_self,hup_ne (by simp)⟩
 refine ⟨⟨m.work,m.puts,tv⟩,⟨_,c2,.slice 1 [] .full,id,m.I.length,0⟩,⟨k,j,⟨rfl,rfl,by omega,rfl,rfl⟩,b1,⟨g,b2⟩,g3.congr b3,.inl ⟨rfl,rfl⟩,rfl,Nat.zero_le _⟩,⟨rfl,rfl,rfl,rfl,rfl,rfl,rfl,rfl,.refl _⟩,fun y' ⟨k2,j2,⟨hk2,hj2,_,_⟩,hI,hyj⟩ => ?_⟩
 obtain rfl:k = k2:=by omega
 obtain rfl:j = j2:=by omega
 obtain ⟨g',hins⟩:=hI.ins
 have hov:=hI.ov
 rw [hyj] at hins hov
 have hyn:y'.n = ((m.shut k).split1 k j).I.length:=by rw [hml,hI.len,hyj]
 refine ⟨(m.shut k).split1 k j,y'.c,y'.id,g',tv,_,?_,⟨hI.at_,hins,hI.turn.ro,by omega,?_,v1.ranked,hqs⟩,fun tv2 c3 σ3 ⟨j1,j2,j3,j4,_⟩ => ?_⟩
 ·rw [hyn]; dsimp only; rw [ww]; rfl
 ·show m.turn.length <= _; omega
 ·have j3:RoAt c3 .turn 3 1 tv2 (intsV ((m.shut k).split1 k j).fresh.turn):=j3
  have h2:=j3.one
  refine bcase_of (fun _ => ?_) (fun h => by rw [h2] at h; cases h)
  have hov3:OvAt c3 (.x 0) y'.ov (List.range' m.I.length j):=hov.congr (j4 _ (by simp))
  exact fin hsp' (RAt.d (RAt.fresh hqs j1 j2 j3)) fun i => hov3.deep j1 i
end
end Go.V
