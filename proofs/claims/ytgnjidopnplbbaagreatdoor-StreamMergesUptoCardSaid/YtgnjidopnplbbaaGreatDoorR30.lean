import Derived.Test.YtgnjidopnplbbaaGreatDoorR29
import Derived.Test.YtgnjidopnplbbaaGreatDoorR16
/- Conditions: the reference's Put, over values. -/
set_option maxRecDepth 1000000
set_option linter.unusedVariables false
namespace Go.V
open Go Go.Proofs

structure YQ where
 σ:State
 c:MH
 qv:AV
 i:Nat
def FL97 (id n w p:Nat) (tv:AV) (t:T):List (Nat × List AV):=[(3,[.rslice id 0 n,tv,.int .i64 (w:Int),.int .i64 (p:Int)]),(5,tc t),(6,[.nilslice,.nilslice,.int .i64 0,.int .i64 0])]
def F97 (k:Int) (qv:AV):List (Nat × TV):=[(1,.v (.int .i64 k)),(3,.l 3 0),(5,.l 5 0),(6,.l 6 0),(8,.v qv)]
def ls97 (k:Int) (id n w p L:Nat) (tv:AV) (t:T) (P:YQ -> Prop):LS YQ where
 F y:=[(1,.v (.int .i64 k)),(3,.l 3 0),(5,.l 5 0),(6,.l 6 0),(8,.v y.qv),(9,.v (.int .i64 (y.i:Int)))]
 FL _:=FL97 id n w p tv t
 S y:=y.σ
 I:=P
 μ y:=L - y.i
 Ex y e a σ:=match e with
  | .exit 0 => ¬ (y.i < L) /\ atF a (F97 k y.qv) (FL97 id n w p tv t) (y.σ.Le σ)
  | _ => False
def N97l (r:Bool):FnHint:=hAt [(10,4,hE4),(10,6,hE4Q),(12,4,hE4),(12,6,hE4Q),(12,8,hTm99),(12,11,match r with | true => hEl 37 4 | false => Hint.s)]
theorem fnParts_97:fnParts Tryz.prog [] 97 = [.loop (bodyOf (fnPart Tryz.prog [] 97 0))]:=by kernel_rfl
theorem vc97ln (B:Nat) (w0:World) (G:Nat -> AV) (k:Int) (id n w p L:Nat) (tv:AV) (t:T) (P:YQ -> Prop) (y:YQ):(wpX [] (EV B w0 G) (H0 (EV B w0 G)) (fun _ _ _ _ => False) (annA 97) (N97l false) (bodyOf (fnPart Tryz.prog [] 97 0)) ((ls97 k id n w p L tv t P).post y) (frm [(1,.v (.int .i64 k)),(3,.l 3 0),(5,.l 5 0),(6,.l 6 0),(8,.v (.slice 4 [] .full)),(9,.v (.int .i64 (y.i:Int)))] (FL97 id n w p tv t)) y.σ) =
 ((∃ a0:OE,(((State.objs (y.1) (id)) = (AObj.cells (OE.cs a0) 164 4 (OE.g a0)))/\
 ((((0:Int) <= (k))/\
 (((k):Int) < ((n:Nat):Int)))/\
 (∃ a1:OE,(((State.objs (y.1) (id)) = (AObj.cells (OE.cs a1) 164 4 (OE.g a1)))/\
 ((((((0 + (Int.toNat (k))) * 4) + 0):Nat) < (List.length (OE.cs a1)))/\
 (∃ x2:List T,(((List.getD (OE.cs a1) ((0 + Int.toNat k) * 4 + 0) AV.undef) = (AV.slice 4 (tcellL x2) Cap.any))/\
 (bcase (decide ((((YQ.i y:Nat):Int):Int) < (((List.length (tcellL x2)):Nat):Int)))
 (∃ a3:OE,(((State.objs (y.1) (id)) = (AObj.cells (OE.cs a3) 164 4 (OE.g a3)))/\
 ((((0:Int) <= (k))/\
 (((k):Int) < ((n:Nat):Int)))/\
 (∃ a4:OE,(((State.objs (y.1) (id)) = (AObj.cells (OE.cs a4) 164 4 (OE.g a4)))/\
 ((((((0 + (Int.toNat (k))) * 4) + 0):Nat) < (List.length (OE.cs a4)))/\
 (∃ x5:List T,(((List.getD (OE.cs a4) ((0 + Int.toNat k) * 4 + 0) AV.undef) = (AV.slice 4 (tcellL x5) Cap.any))/\
 ((((0:Int) <= ((YQ.i y:Nat):Int))/\
 ((((YQ.i y:Nat):Int):Int) < (((List.length (tcellL x5)):Nat):Int)))/\
 (∃ x6:T,(((AV.vptr (AV.cells (List.getD (tcellL x5) (Int.toNat (↑(YQ.i y):Int)) AV.undef))) = (AV.vptr [(AV.int .i64 (T.k x6)),(AV.int .i64 (T.n x6)),(AV.str (T.s x6)),(AV.slice 4 (tcellL (T.l x6)) Cap.any)]))/\
 ((((56:Nat) <= 140737488355328)/\
 ((1:Nat) <= 4611686018427387904))/\
 (∃ x'7:YQ,(((P (x'7))/\
 (((LS.μ (ls97 k id n w p L tv t P) x'7):Nat) < (LS.μ (ls97 k id n w p L tv t P) y)))/\
 ((Rf (TV.v (AV.int .i64 (k))))/\
 ((Rf (TV.l 3 0))/\
 ((Rf (TV.l 5 0))/\
 ((Rf (TV.l 6 0))/\
 (((TV.v (AV.rslice (State.next (y.1)) 0 1)) = (TV.v (YQ.qv x'7)))/\
 (((TV.v (AV.int .i64 (IntKind.wrap .i64 (((YQ.i y:Nat):Int) + 1)))) = (TV.v (AV.int .i64 ((YQ.i x'7:Nat):Int))))/\
 ((Rf [(AV.rslice (id) 0 (n)),(tv),(AV.int .i64 ((w:Nat):Int)),(AV.int .i64 ((p:Nat):Int))])/\
 ((Rf [(AV.int .i64 (T.k t)),(AV.int .i64 (T.n t)),(AV.str (T.s t)),(AV.slice 4 (tcellL (T.l t)) Cap.any)])/\
 ((Rf [AV.nilslice,AV.nilslice,(AV.int .i64 0),(AV.int .i64 0)])/\
 (State.Le ((ls97 k id n w p L tv t P).3 x'7) (State.new (y.1) (AObj.cells [(AV.int .i64 (T.k x6)),(AV.int .i64 (T.n x6)),(AV.str (T.s x6)),(AV.slice 4 (tcellL (T.l x6)) Cap.any)] 37 4 true))))))))))))))))))))))))))
 ((((YQ.i y:Nat) < (L)) -> False)/\
 ((Rf (TV.v (AV.int .i64 (k))))/\
 ((Rf (TV.l 3 0))/\
 ((Rf (TV.l 5 0))/\
 ((Rf (TV.l 6 0))/\
 (((TV.v (AV.slice 4 [] Cap.full)) = (TV.v (YQ.qv y)))/\
 ((Rf [(AV.rslice (id) 0 (n)),(tv),(AV.int .i64 ((w:Nat):Int)),(AV.int .i64 ((p:Nat):Int))])/\
 ((Rf [(AV.int .i64 (T.k t)),(AV.int .i64 (T.n t)),(AV.str (T.s t)),(AV.slice 4 (tcellL (T.l t)) Cap.any)])/\
 ((Rf [AV.nilslice,AV.nilslice,(AV.int .i64 0),(AV.int .i64 0)])/\
 (State.Le (y.1) (y.1))))))))))))))))))))):=by kernel_rfl
theorem vc97lr (B:Nat) (w0:World) (G:Nat -> AV) (k:Int) (id n w p L:Nat) (tv:AV) (t:T) (qid qn:Nat) (P:YQ -> Prop) (y:YQ):(wpX [] (EV B w0 G) (H0 (EV B w0 G)) (fun _ _ _ _ => False) (annA 97) (N97l true) (bodyOf (fnPart Tryz.prog [] 97 0)) ((ls97 k id n w p L tv t P).post y) (frm [(1,.v (.int .i64 k)),(3,.l 3 0),(5,.l 5 0),(6,.l 6 0),(8,.v (.rslice qid 0 qn)),(9,.v (.int .i64 (y.i:Int)))] (FL97 id n w p tv t)) y.σ) =
 ((∃ a0:OE,(((State.objs (y.1) (id)) = (AObj.cells (OE.cs a0) 164 4 (OE.g a0)))/\
 ((((0:Int) <= (k))/\
 (((k):Int) < ((n:Nat):Int)))/\
 (∃ a1:OE,(((State.objs (y.1) (id)) = (AObj.cells (OE.cs a1) 164 4 (OE.g a1)))/\
 ((((((0 + (Int.toNat (k))) * 4) + 0):Nat) < (List.length (OE.cs a1)))/\
 (∃ x2:List T,(((List.getD (OE.cs a1) ((0 + Int.toNat k) * 4 + 0) AV.undef) = (AV.slice 4 (tcellL x2) Cap.any))/\
 (bcase (decide ((((YQ.i y:Nat):Int):Int) < (((List.length (tcellL x2)):Nat):Int)))
 (∃ a3:OE,(((State.objs (y.1) (id)) = (AObj.cells (OE.cs a3) 164 4 (OE.g a3)))/\
 ((((0:Int) <= (k))/\
 (((k):Int) < ((n:Nat):Int)))/\
 (∃ a4:OE,(((State.objs (y.1) (id)) = (AObj.cells (OE.cs a4) 164 4 (OE.g a4)))/\
 ((((((0 + (Int.toNat (k))) * 4) + 0):Nat) < (List.length (OE.cs a4)))/\
 (∃ x5:List T,(((List.getD (OE.cs a4) ((0 + Int.toNat k) * 4 + 0) AV.undef) = (AV.slice 4 (tcellL x5) Cap.any))/\
 ((((0:Int) <= ((YQ.i y:Nat):Int))/\
 ((((YQ.i y:Nat):Int):Int) < (((List.length (tcellL x5)):Nat):Int)))/\
 (∃ x6:T,(((AV.vptr (AV.cells (List.getD (tcellL x5) (Int.toNat (↑(YQ.i y):Int)) AV.undef))) = (AV.vptr [(AV.int .i64 (T.k x6)),(AV.int .i64 (T.n x6)),(AV.str (T.s x6)),(AV.slice 4 (tcellL (T.l x6)) Cap.any)]))/\
 (∃ a7:OE,(((State.objs (y.1) (qid)) = (AObj.cells (OE.cs a7) 37 4 (OE.g a7)))/\
 ((((0:Nat) = 0)/\
 (((((((qn) + 1) * 56):Nat) <= 140737488355328)/\
 ((((qn) + 1):Nat) <= 4611686018427387904))/\
 ((((qn) * 4):Nat) <= (List.length (OE.cs a7)))))/\
 (∃ x'8:YQ,(((P (x'8))/\
 (((LS.μ (ls97 k id n w p L tv t P) x'8):Nat) < (LS.μ (ls97 k id n w p L tv t P) y)))/\
 ((Rf (TV.v (AV.int .i64 (k))))/\
 ((Rf (TV.l 3 0))/\
 ((Rf (TV.l 5 0))/\
 ((Rf (TV.l 6 0))/\
 (((TV.v (AV.rslice (State.next (y.1)) 0 ((qn) + 1))) = (TV.v (YQ.qv x'8)))/\
 (((TV.v (AV.int .i64 (IntKind.wrap .i64 (((YQ.i y:Nat):Int) + 1)))) = (TV.v (AV.int .i64 ((YQ.i x'8:Nat):Int))))/\
 ((Rf [(AV.rslice (id) 0 (n)),(tv),(AV.int .i64 ((w:Nat):Int)),(AV.int .i64 ((p:Nat):Int))])/\
 ((Rf [(AV.int .i64 (T.k t)),(AV.int .i64 (T.n t)),(AV.str (T.s t)),(AV.slice 4 (tcellL (T.l t)) Cap.any)])/\
 ((Rf [AV.nilslice,AV.nilslice,(AV.int .i64 0),(AV.int .i64 0)])/\
 (State.Le ((ls97 k id n w p L tv t P).3 x'8) (State.new (State.set (y.1) (qid) AObj.dead) (AObj.cells ((List.take ((qn) * 4) (OE.cs a7)) ++ [(AV.int .i64 (T.k x6)),(AV.int .i64 (T.n x6)),(AV.str (T.s x6)),(AV.slice 4 (tcellL (T.l x6)) Cap.any)]) 37 4 true))))))))))))))))))))))))))))
 ((((YQ.i y:Nat) < (L)) -> False)/\
 ((Rf (TV.v (AV.int .i64 (k))))/\
 ((Rf (TV.l 3 0))/\
 ((Rf (TV.l 5 0))/\
 ((Rf (TV.l 6 0))/\
 (((TV.v (AV.rslice (qid) 0 (qn))) = (TV.v (YQ.qv y)))/\
 ((Rf [(AV.rslice (id) 0 (n)),(tv),(AV.int .i64 ((w:Nat):Int)),(AV.int .i64 ((p:Nat):Int))])/\
 ((Rf [(AV.int .i64 (T.k t)),(AV.int .i64 (T.n t)),(AV.str (T.s t)),(AV.slice 4 (tcellL (T.l t)) Cap.any)])/\
 ((Rf [AV.nilslice,AV.nilslice,(AV.int .i64 0),(AV.int .i64 0)])/\
 (State.Le (y.1) (y.1))))))))))))))))))))):=by kernel_rfl
def hRSn:Hint:=⟨false,some ⟨RS,RS.v⟩,none,true⟩
def H97 (E:Env):Hand:=hnd E annA noHints [(93,C93r),(32,C32),(94,C94r)]
def N97:FnHint:=hAt [(13,3,hEl 37 4),(14,4,hE4),(14,6,hE4),(15,3,hE4),(15,5,hE4B),(16,1,hRSn),(16,4,hEl 3 1)]
structure GQ where
 id:Nat
 n:Nat
 w:Nat
 p:Nat
 L:Nat
 tv:AV
def T97 (k:Int) (t:T) (P:GQ -> YQ -> Prop) (R:GQ -> YQ -> Prop):LHand:=fun _ Q a σ => ∃ (g:GQ) (y:YQ),P g y /\ atF a ((ls97 k g.id g.n g.w g.p g.L g.tv t (P g)).F y) (FL97 g.id g.n g.w g.p g.tv t) (y.σ.Le σ) /\
 (∀ y':YQ,R g y' -> y'.qv = .slice 4 [] .full -> Q (.exit 0) (frm (F97 k (.slice 4 [] .full)) (FL97 g.id g.n g.w g.p g.tv t)) y'.σ) /\
 (∀ (y':YQ) (qid qn:Nat),R g y' -> y'.qv = .rslice qid 0 qn -> Q (.exit 0) (frm (F97 k (.rslice qid 0 qn)) (FL97 g.id g.n g.w g.p g.tv t)) y'.σ)
theorem vc97 (B:Nat) (w0:World) (G:Nat -> AV) (m:RM) (i:Int) (t:T) (P R:GQ -> YQ -> Prop) (Q:AV -> State -> Prop):(bodyX [] (EV B w0 G) (H97 (EV B w0 G)) (T97 i t P R) annA N97 97 [.agg [.slice 4 (rL m.I) .any,.slice 1 (intsV m.turn) .any,.int .i64 (m.work:Int),.int .i64 (m.puts:Int)],.int .i64 i,.agg (tc t)] noObj Q) =
 ((∃ m0:RM,(∃ i1:Int,(([(AV.agg [(AV.slice 4 (rL (RM.I m)) Cap.any),(AV.slice 1 (intsV (RM.turn m)) Cap.any),(AV.int .i64 ((RM.work m:Nat):Int)),(AV.int .i64 ((RM.puts m:Nat):Int))]),(AV.int .i64 (i))] = [(AV.agg [(AV.slice 4 (rL (RM.I m0)) Cap.any),(AV.slice 1 (intsV (RM.turn m0)) Cap.any),(AV.int .i64 ((RM.work m0:Nat):Int)),(AV.int .i64 ((RM.puts m0:Nat):Int))]),(AV.int .i64 (i1))])/\
 (bcase (!(Option.isSome (RM.opened m0 i1)))
 (Q (AV.tuple [(AV.agg [(AV.slice 4 (rL (RM.I m)) Cap.any),(AV.slice 1 (intsV (RM.turn m)) Cap.any),(AV.int .i64 ((RM.work m:Nat):Int)),(AV.int .i64 ((RM.puts m:Nat):Int))]),(AV.int .i64 90)]) (noObj))
 (∃ t2:T,(([(AV.agg [(AV.int .i64 (T.k t)),(AV.int .i64 (T.n t)),(AV.str (T.s t)),(AV.slice 4 (tcellL (T.l t)) Cap.any)])] = [(AV.agg [(AV.int .i64 (T.k t2)),(AV.int .i64 (T.n t2)),(AV.str (T.s t2)),(AV.slice 4 (tcellL (T.l t2)) Cap.any)])])/\
 (((T.bulk t2:Nat) <= 1099511627776)/\
 (bcase (((chkT t2):Int) != 0)
 (Q (AV.tuple [(AV.agg [(AV.slice 4 (rL (RM.I m)) Cap.any),(AV.slice 1 (intsV (RM.turn m)) Cap.any),(AV.int .i64 ((RM.work m:Nat):Int)),(AV.int .i64 ((RM.puts m:Nat):Int))]),(AV.int .i64 3)]) (State.untok (noObj)))
 (bcase (decide ((((RM.puts m:Nat):Int):Int) ≥ 20000))
 (Q (AV.tuple [(AV.agg [(AV.slice 4 (rL (RM.I m)) Cap.any),(AV.slice 1 (intsV (RM.turn m)) Cap.any),(AV.int .i64 ((RM.work m:Nat):Int)),(AV.int .i64 ((RM.puts m:Nat):Int))]),(AV.int .i64 91)]) (State.untok (noObj)))
 (∃ m3:RM,(∃ c4:MH,(([(AV.agg [(AV.slice 4 (rL (RM.I m)) Cap.any),(AV.slice 1 (intsV (RM.turn m)) Cap.any),(AV.int .i64 ((RM.work m:Nat):Int)),(AV.int .i64 ((RM.puts m:Nat):Int))])] = [(AV.agg [(AV.slice 4 (rL (RM.I m3)) Cap.any),(AV.slice 1 (intsV (RM.turn m3)) Cap.any),(AV.int .i64 ((RM.work m3:Nat):Int)),(AV.int .i64 ((RM.puts m3:Nat):Int))])])/\
 (((At c4 (State.untok (noObj)))/\
 ((((List.length (RM.I m3)):Nat) <= 5000)/\
 ((((List.length (RM.turn m3)):Nat) <= 5000)/\
 ((RM.I m3) ≠ []))))/\
 (∀ id5:Nat,(∀ g6:Bool,(∀ tv7:AV,(∀ c'8:MH,(∀ σ'9:State,(((At c'8 σ'9)/\
 (((c'8 MRole.ins) = (Option.some (Prod.mk (id5) (AObj.cells (flat (rL (RM.I m3))) 164 4 (g6)))))/\
 ((SlAt c'8 MRole.turn 3 1 tv7 (intsV (RM.turn m3)))/\
 (∀ q10:MRole,(((q10 ∈ [MRole.ins,MRole.turn]) -> False) -> ((c'8 q10) = (c4 q10))))))) -> (bcase (true && (true && ((true && ((AV.one (tv7)) && (true && (true && true)))) && true)))
 (∃ g10:GQ,(∃ y11:YQ,((P (g10) (y11))/\
 (((Rf (TV.v (AV.int .i64 (i))))/\
 ((Rf (TV.l 3 0))/\
 ((Rf (TV.l 5 0))/\
 ((Rf (TV.l 6 0))/\
 (((TV.v (AV.slice 4 [] Cap.full)) = (TV.v (YQ.qv y11)))/\
 (((TV.v (AV.int .i64 0)) = (TV.v (AV.int .i64 ((YQ.i y11:Nat):Int))))/\
 (([(AV.rslice (id5) 0 (List.length (RM.I m3))),(tv7),(AV.int .i64 ((RM.work m3:Nat):Int)),(AV.int .i64 ((RM.puts m3:Nat):Int))] = [(AV.rslice (GQ.id g10) 0 (GQ.n g10)),(GQ.tv g10),(AV.int .i64 ((GQ.w g10:Nat):Int)),(AV.int .i64 ((GQ.p g10:Nat):Int))])/\
 ((Rf [(AV.int .i64 (T.k t)),(AV.int .i64 (T.n t)),(AV.str (T.s t)),(AV.slice 4 (tcellL (T.l t)) Cap.any)])/\
 ((Rf [AV.nilslice,AV.nilslice,(AV.int .i64 0),(AV.int .i64 0)])/\
 (State.Le (y11.1) σ'9))))))))))/\
 ((∀ y'12:YQ,((R (g10) (y'12)) -> (((YQ.qv y'12) = (AV.slice 4 [] Cap.full)) -> ((((56:Nat) <= 140737488355328)/\
 ((1:Nat) <= 4611686018427387904))/\
 (∃ a13:OE,(((State.objs (State.new (y'12.1) (AObj.cells [(AV.int .i64 (T.k t)),(AV.int .i64 (T.n t)),(AV.str (T.s t)),(AV.slice 4 (tcellL (T.l t)) Cap.any)] 37 4 true)) (GQ.id g10)) = (AObj.cells (OE.cs a13) 164 4 (OE.g a13)))/\
 ((((0:Int) <= (i))/\
 (((i):Int) < ((GQ.n g10:Nat):Int)))/\
 (∃ a14:OE,(((State.objs (State.new (y'12.1) (AObj.cells [(AV.int .i64 (T.k t)),(AV.int .i64 (T.n t)),(AV.str (T.s t)),(AV.slice 4 (tcellL (T.l t)) Cap.any)] 37 4 true)) (GQ.id g10)) = (AObj.cells (OE.cs a14) 164 4 (OE.g a14)))/\
 (((((((0 + (Int.toNat (i))) * 4) + 0) + 1):Nat) <= (List.length (OE.cs a14)))/\
 (∃ a15:OE,(((State.objs (State.set (State.new (y'12.1) (AObj.cells [(AV.int .i64 (T.k t)),(AV.int .i64 (T.n t)),(AV.str (T.s t)),(AV.slice 4 (tcellL (T.l t)) Cap.any)] 37 4 true)) (GQ.id g10) (AObj.cells (asplice (OE.cs a14) (((0 + (Int.toNat (i))) * 4) + 0) [(AV.rslice (State.next (y'12.1)) 0 1)]) 164 4 (OE.g a14))) (GQ.id g10)) = (AObj.cells (OE.cs a15) 164 4 (OE.g a15)))/\
 ((((0:Int) <= (i))/\
 (((i):Int) < ((GQ.n g10:Nat):Int)))/\
 (∃ a16:OE,(((State.objs (State.set (State.new (y'12.1) (AObj.cells [(AV.int .i64 (T.k t)),(AV.int .i64 (T.n t)),(AV.str (T.s t)),(AV.slice 4 (tcellL (T.l t)) Cap.any)] 37 4 true)) (GQ.id g10) (AObj.cells (asplice (OE.cs a14) (((0 + (Int.toNat (i))) * 4) + 0) [(AV.rslice (State.next (y'12.1)) 0 1)]) 164 4 (OE.g a14))) (GQ.id g10)) = (AObj.cells (OE.cs a16) 164 4 (OE.g a16)))/\
 ((((((0 + (Int.toNat (i))) * 4) + 2):Nat) < (List.length (OE.cs a16)))/\
 (∃ x17:Bool,(((List.getD (OE.cs a16) ((0 + Int.toNat i) * 4 + 2) AV.undef) = (AV.bool (x17)))/\
 (bcase (x17)
 ((((GQ.tv g10) = AV.nilslice)/\
 ((((8:Nat) <= 140737488355328)/\
 ((1:Nat) <= 4611686018427387904))/\
 (Q (AV.tuple [(AV.agg [(AV.rslice (GQ.id g10) 0 (GQ.n g10)),(AV.rslice ((State.next (y'12.1)) + 1) 0 1),(AV.int .i64 (IntKind.wrap .i64 (((GQ.w g10:Nat):Int) + 1))),(AV.int .i64 (IntKind.wrap .i64 (((GQ.p g10:Nat):Int) + 1)))]),(AV.int .i64 0)]) (State.new (State.set (State.new (y'12.1) (AObj.cells [(AV.int .i64 (T.k t)),(AV.int .i64 (T.n t)),(AV.str (T.s t)),(AV.slice 4 (tcellL (T.l t)) Cap.any)] 37 4 true)) (GQ.id g10) (AObj.cells (asplice (OE.cs a14) (((0 + (Int.toNat (i))) * 4) + 0) [(AV.rslice (State.next (y'12.1)) 0 1)]) 164 4 (OE.g a14))) (AObj.cells [(AV.int .i64 (i))] 3 1 true))))) \/ (∃ x18:RS,(((GQ.tv g10) = (AV.rslice (RS.id x18) 0 (RS.n x18)))/\
 (∃ a19:OE,(((State.objs (State.set (State.new (y'12.1) (AObj.cells [(AV.int .i64 (T.k t)),(AV.int .i64 (T.n t)),(AV.str (T.s t)),(AV.slice 4 (tcellL (T.l t)) Cap.any)] 37 4 true)) (GQ.id g10) (AObj.cells (asplice (OE.cs a14) (((0 + (Int.toNat (i))) * 4) + 0) [(AV.rslice (State.next (y'12.1)) 0 1)]) 164 4 (OE.g a14))) (RS.id x18)) = (AObj.cells (OE.cs a19) 3 1 (OE.g a19)))/\
 ((((0:Nat) = 0)/\
 (((((((RS.n x18) + 1) * 8):Nat) <= 140737488355328)/\
 ((((RS.n x18) + 1):Nat) <= 4611686018427387904))/\
 ((((RS.n x18) * 1):Nat) <= (List.length (OE.cs a19)))))/\
 (Q (AV.tuple [(AV.agg [(AV.rslice (GQ.id g10) 0 (GQ.n g10)),(AV.rslice ((State.next (y'12.1)) + 1) 0 ((RS.n x18) + 1)),(AV.int .i64 (IntKind.wrap .i64 (((GQ.w g10:Nat):Int) + 1))),(AV.int .i64 (IntKind.wrap .i64 (((GQ.p g10:Nat):Int) + 1)))]),(AV.int .i64 0)]) (State.new (State.set (State.set (State.new (y'12.1) (AObj.cells [(AV.int .i64 (T.k t)),(AV.int .i64 (T.n t)),(AV.str (T.s t)),(AV.slice 4 (tcellL (T.l t)) Cap.any)] 37 4 true)) (GQ.id g10) (AObj.cells (asplice (OE.cs a14) (((0 + (Int.toNat (i))) * 4) + 0) [(AV.rslice (State.next (y'12.1)) 0 1)]) 164 4 (OE.g a14))) (RS.id x18) AObj.dead) (AObj.cells ((List.take ((RS.n x18) * 1) (OE.cs a19)) ++ [(AV.int .i64 (i))]) 3 1 true)))))))))
 (bcase (true && (true && ((true && ((AV.one (GQ.tv g10)) && (true && (true && true)))) && true)))
 (Q (AV.tuple [(AV.agg [(AV.rslice (GQ.id g10) 0 (GQ.n g10)),(GQ.tv g10),(AV.int .i64 (IntKind.wrap .i64 (((GQ.w g10:Nat):Int) + 1))),(AV.int .i64 (IntKind.wrap .i64 (((GQ.p g10:Nat):Int) + 1)))]),(AV.int .i64 0)]) (State.set (State.new (y'12.1) (AObj.cells [(AV.int .i64 (T.k t)),(AV.int .i64 (T.n t)),(AV.str (T.s t)),(AV.slice 4 (tcellL (T.l t)) Cap.any)] 37 4 true)) (GQ.id g10) (AObj.cells (asplice (OE.cs a14) (((0 + (Int.toNat (i))) * 4) + 0) [(AV.rslice (State.next (y'12.1)) 0 1)]) 164 4 (OE.g a14))))
 False))))))))))))))))))))/\
 (∀ y'12:YQ,(∀ qid13:Nat,(∀ qn14:Nat,((R (g10) (y'12)) -> (((YQ.qv y'12) = (AV.rslice (qid13) 0 (qn14))) -> (∃ a15:OE,(((State.objs (y'12.1) (qid13)) = (AObj.cells (OE.cs a15) 37 4 (OE.g a15)))/\
 ((((0:Nat) = 0)/\
 (((((((qn14) + 1) * 56):Nat) <= 140737488355328)/\
 ((((qn14) + 1):Nat) <= 4611686018427387904))/\
 ((((qn14) * 4):Nat) <= (List.length (OE.cs a15)))))/\
 (∃ a16:OE,(((State.objs (State.new (State.set (y'12.1) (qid13) AObj.dead) (AObj.cells ((List.take ((qn14) * 4) (OE.cs a15)) ++ [(AV.int .i64 (T.k t)),(AV.int .i64 (T.n t)),(AV.str (T.s t)),(AV.slice 4 (tcellL (T.l t)) Cap.any)]) 37 4 true)) (GQ.id g10)) = (AObj.cells (OE.cs a16) 164 4 (OE.g a16)))/\
 ((((0:Int) <= (i))/\
 (((i):Int) < ((GQ.n g10:Nat):Int)))/\
 (∃ a17:OE,(((State.objs (State.new (State.set (y'12.1) (qid13) AObj.dead) (AObj.cells ((List.take ((qn14) * 4) (OE.cs a15)) ++ [(AV.int .i64 (T.k t)),(AV.int .i64 (T.n t)),(AV.str (T.s t)),(AV.slice 4 (tcellL (T.l t)) Cap.any)]) 37 4 true)) (GQ.id g10)) = (AObj.cells (OE.cs a17) 164 4 (OE.g a17)))/\
 (((((((0 + (Int.toNat (i))) * 4) + 0) + 1):Nat) <= (List.length (OE.cs a17)))/\
 (∃ a18:OE,(((State.objs (State.set (State.new (State.set (y'12.1) (qid13) AObj.dead) (AObj.cells ((List.take ((qn14) * 4) (OE.cs a15)) ++ [(AV.int .i64 (T.k t)),(AV.int .i64 (T.n t)),(AV.str (T.s t)),(AV.slice 4 (tcellL (T.l t)) Cap.any)]) 37 4 true)) (GQ.id g10) (AObj.cells (asplice (OE.cs a17) (((0 + (Int.toNat (i))) * 4) + 0) [(AV.rslice (State.next (y'12.1)) 0 ((qn14) + 1))]) 164 4 (OE.g a17))) (GQ.id g10)) = (AObj.cells (OE.cs a18) 164 4 (OE.g a18)))/\
 ((((0:Int) <= (i))/\
 (((i):Int) < ((GQ.n g10:Nat):Int)))/\
 (∃ a19:OE,(((State.objs (State.set (State.new (State.set (y'12.1) (qid13) AObj.dead) (AObj.cells ((List.take ((qn14) * 4) (OE.cs a15)) ++ [(AV.int .i64 (T.k t)),(AV.int .i64 (T.n t)),(AV.str (T.s t)),(AV.slice 4 (tcellL (T.l t)) Cap.any)]) 37 4 true)) (GQ.id g10) (AObj.cells (asplice (OE.cs a17) (((0 + (Int.toNat (i))) * 4) + 0) [(AV.rslice (State.next (y'12.1)) 0 ((qn14) + 1))]) 164 4 (OE.g a17))) (GQ.id g10)) = (AObj.cells (OE.cs a19) 164 4 (OE.g a19)))/\
 ((((((0 + (Int.toNat (i))) * 4) + 2):Nat) < (List.length (OE.cs a19)))/\
 (∃ x20:Bool,(((List.getD (OE.cs a19) ((0 + Int.toNat i) * 4 + 2) AV.undef) = (AV.bool (x20)))/\
 (bcase (x20)
 (bcase ((((((qn14) + 1):Nat):Int):Int) == 1)
 ((((GQ.tv g10) = AV.nilslice)/\
 ((((8:Nat) <= 140737488355328)/\
 ((1:Nat) <= 4611686018427387904))/\
 (Q (AV.tuple [(AV.agg [(AV.rslice (GQ.id g10) 0 (GQ.n g10)),(AV.rslice ((State.next (y'12.1)) + 1) 0 1),(AV.int .i64 (IntKind.wrap .i64 (((GQ.w g10:Nat):Int) + 1))),(AV.int .i64 (IntKind.wrap .i64 (((GQ.p g10:Nat):Int) + 1)))]),(AV.int .i64 0)]) (State.new (State.set (State.new (State.set (y'12.1) (qid13) AObj.dead) (AObj.cells ((List.take ((qn14) * 4) (OE.cs a15)) ++ [(AV.int .i64 (T.k t)),(AV.int .i64 (T.n t)),(AV.str (T.s t)),(AV.slice 4 (tcellL (T.l t)) Cap.any)]) 37 4 true)) (GQ.id g10) (AObj.cells (asplice (OE.cs a17) (((0 + (Int.toNat (i))) * 4) + 0) [(AV.rslice (State.next (y'12.1)) 0 ((qn14) + 1))]) 164 4 (OE.g a17))) (AObj.cells [(AV.int .i64 (i))] 3 1 true))))) \/ (∃ x21:RS,(((GQ.tv g10) = (AV.rslice (RS.id x21) 0 (RS.n x21)))/\
 (∃ a22:OE,(((State.objs (State.set (State.new (State.set (y'12.1) (qid13) AObj.dead) (AObj.cells ((List.take ((qn14) * 4) (OE.cs a15)) ++ [(AV.int .i64 (T.k t)),(AV.int .i64 (T.n t)),(AV.str (T.s t)),(AV.slice 4 (tcellL (T.l t)) Cap.any)]) 37 4 true)) (GQ.id g10) (AObj.cells (asplice (OE.cs a17) (((0 + (Int.toNat (i))) * 4) + 0) [(AV.rslice (State.next (y'12.1)) 0 ((qn14) + 1))]) 164 4 (OE.g a17))) (RS.id x21)) = (AObj.cells (OE.cs a22) 3 1 (OE.g a22)))/\
 ((((0:Nat) = 0)/\
 (((((((RS.n x21) + 1) * 8):Nat) <= 140737488355328)/\
 ((((RS.n x21) + 1):Nat) <= 4611686018427387904))/\
 ((((RS.n x21) * 1):Nat) <= (List.length (OE.cs a22)))))/\
 (Q (AV.tuple [(AV.agg [(AV.rslice (GQ.id g10) 0 (GQ.n g10)),(AV.rslice ((State.next (y'12.1)) + 1) 0 ((RS.n x21) + 1)),(AV.int .i64 (IntKind.wrap .i64 (((GQ.w g10:Nat):Int) + 1))),(AV.int .i64 (IntKind.wrap .i64 (((GQ.p g10:Nat):Int) + 1)))]),(AV.int .i64 0)]) (State.new (State.set (State.set (State.new (State.set (y'12.1) (qid13) AObj.dead) (AObj.cells ((List.take ((qn14) * 4) (OE.cs a15)) ++ [(AV.int .i64 (T.k t)),(AV.int .i64 (T.n t)),(AV.str (T.s t)),(AV.slice 4 (tcellL (T.l t)) Cap.any)]) 37 4 true)) (GQ.id g10) (AObj.cells (asplice (OE.cs a17) (((0 + (Int.toNat (i))) * 4) + 0) [(AV.rslice (State.next (y'12.1)) 0 ((qn14) + 1))]) 164 4 (OE.g a17))) (RS.id x21) AObj.dead) (AObj.cells ((List.take ((RS.n x21) * 1) (OE.cs a22)) ++ [(AV.int .i64 (i))]) 3 1 true)))))))))
 (bcase (true && (true && ((true && ((AV.one (GQ.tv g10)) && (true && (true && true)))) && true)))
 (Q (AV.tuple [(AV.agg [(AV.rslice (GQ.id g10) 0 (GQ.n g10)),(GQ.tv g10),(AV.int .i64 (IntKind.wrap .i64 (((GQ.w g10:Nat):Int) + 1))),(AV.int .i64 (IntKind.wrap .i64 (((GQ.p g10:Nat):Int) + 1)))]),(AV.int .i64 0)]) (State.set (State.new (State.set (y'12.1) (qid13) AObj.dead) (AObj.cells ((List.take ((qn14) * 4) (OE.cs a15)) ++ [(AV.int .i64 (T.k t)),(AV.int .i64 (T.n t)),(AV.str (T.s t)),(AV.slice 4 (tcellL (T.l t)) Cap.any)]) 37 4 true)) (GQ.id g10) (AObj.cells (asplice (OE.cs a17) (((0 + (Int.toNat (i))) * 4) + 0) [(AV.rslice (State.next (y'12.1)) 0 ((qn14) + 1))]) 164 4 (OE.g a17))))
 False))
 (bcase (true && (true && ((true && ((AV.one (GQ.tv g10)) && (true && (true && true)))) && true)))
 (Q (AV.tuple [(AV.agg [(AV.rslice (GQ.id g10) 0 (GQ.n g10)),(GQ.tv g10),(AV.int .i64 (IntKind.wrap .i64 (((GQ.w g10:Nat):Int) + 1))),(AV.int .i64 (IntKind.wrap .i64 (((GQ.p g10:Nat):Int) + 1)))]),(AV.int .i64 0)]) (State.set (State.new (State.set (y'12.1) (qid13) AObj.dead) (AObj.cells ((List.take ((qn14) * 4) (OE.cs a15)) ++ [(AV.int .i64 (T.k t)),(AV.int .i64 (T.n t)),(AV.str (T.s t)),(AV.slice 4 (tcellL (T.l t)) Cap.any)]) 37 4 true)) (GQ.id g10) (AObj.cells (asplice (OE.cs a17) (((0 + (Int.toNat (i))) * 4) + 0) [(AV.rslice (State.next (y'12.1)) 0 ((qn14) + 1))]) 164 4 (OE.g a17))))
 False)))))))))))))))))))))))))))))
 False))))))))))))))))))))):=by kernel_rfl
end Go.V
/- The reference's Put, over values. -/
set_option linter.unusedSimpArgs false
set_option linter.unusedSectionVars false
namespace Go.V
open Go Go.Proofs

theorem chunk_tcL:∀ l:List T,chunk (some 4) (flat (tcellL l)) l.length = tcellL l
 | [] => rfl
 | x :: l => by
  show chunk (some 4) (flat (tcell x :: tcellL l)) (l.length + 1) = _
  obtain ⟨k,n,s,q⟩:=x
  rw [flat_cons]
  show AV.agg ((([.int .i64 k,.int .i64 n,.str s,.slice 4 (tcellL q) .any]:List AV) ++ flat (tcellL l)).take 4) :: chunk (some 4) ((([.int .i64 k,.int .i64 n,.str s,.slice 4 (tcellL q) .any]:List AV) ++ flat (tcellL l)).drop 4) l.length = _
  rw [List.take_left' (by rfl),List.drop_left' (by rfl),chunk_tcL l]; rfl
theorem kind37:kindT Tryz.prog 37 = some (some 4):=by kernel_rfl

def QV2 (σ:State) (v:AV) (q:List T):Prop:=QV v q \/ ∃ (id:Nat) (g:Bool),v = .rslice id 0 q.length /\ σ.objs id = .cells (flat (tcellL q)) 37 4 g
def QVr (v:AV) (q:List T):Prop:=QV v q \/ v = .slice 4 (tcellL q) .nn
def QsL2 (σ:State) (qs:List AV) (l:List RI):Prop:=qs.length = l.length /\ ∀ k (h:k < l.length),QV2 σ (qs.getD k .undef) l[k].q
def QsLr (qs:List AV) (l:List RI):Prop:=qs.length = l.length /\ ∀ k (h:k < l.length),QVr (qs.getD k .undef) l[k].q
theorem QsL2.tail {σ:State} {v:AV} {qs:List AV} {x:RI} {l:List RI} (h:QsL2 σ (v :: qs) (x :: l)):QV2 σ v x.q /\ QsL2 σ qs l :=
 ⟨h.2 0 (by simp),by simpa using h.1,fun k hk => h.2 (k + 1) (by simpa using hk)⟩
theorem QsLr.tail {v:AV} {qs:List AV} {x:RI} {l:List RI} (h:QsLr (v :: qs) (x :: l)):QVr v x.q /\ QsLr qs l :=
 ⟨h.2 0 (by simp),by simpa using h.1,fun k hk => h.2 (k + 1) (by simpa using hk)⟩
theorem QsLr.cons {v:AV} {qs:List AV} {x:RI} {l:List RI} (h:QVr v x.q) (k:QsLr qs l):QsLr (v :: qs) (x :: l) :=
 ⟨by simp [k.1],fun i hi => by
  cases i with
  | zero => exact h
  | succ i => exact k.2 i (by simpa using hi)⟩
theorem QsL.two {σ:State} {qs:List AV} {l:List RI} (h:QsL qs l):QsL2 σ qs l:=⟨h.1,fun k hk => .inl (h.2 k hk)⟩

theorem deep_QV2 {σ:State} {v:AV} {q:List T} (hv:QV2 σ v q) (n:Nat) (h:2 * SizeOf.sizeOf q + 2 < n):∃ w,deep Tryz.prog σ n v = some w /\ QVr w q:=by
 obtain ⟨n,rfl⟩:∃ k,n = k + 1:=⟨n - 1,by omega⟩
 rcases hv with (rfl | ⟨rfl,h0⟩) | ⟨id,g,rfl,ho⟩
 ·exact ⟨_,deep_slice (deep_tcellL _ _ q n (by omega)),.inl (.inl rfl)⟩
 ·exact ⟨_,rfl,.inl (.inr ⟨rfl,h0⟩)⟩
 ·refine ⟨_,deep_rslice ho kind37 rfl (by omega) (by rw [flat_tcellL_length]; omega) ?_,.inr rfl⟩
  rw [Nat.zero_mul,List.drop_zero,List.take_of_length_le (by rw [flat_tcellL_length]; exact Nat.le_refl _),chunk_tcL]
  exact deep_tcellL _ _ q n (by omega)
theorem deep_rLq2 (σ:State):∀ {qs:List AV} {l:List RI} (n:Nat),QsL2 σ qs l -> 2 * SizeOf.sizeOf l + 4 < n -> ∃ ws,(rLq qs l).mapM (deep Tryz.prog σ n) = some (rLq ws l) /\ QsLr ws l
 | [],[],n,_,_ => ⟨[],rfl,rfl,fun k hk => by simp at hk⟩
 | [],x :: l,n,h,_ => by have:=h.1; simp at this
 | v :: qs,[],n,h,_ => by have:=h.1; simp at this
 | v :: qs,x :: l,n,h,hn => by
  obtain ⟨h1,h2⟩:=h.tail
  have h3:SizeOf.sizeOf x.q < SizeOf.sizeOf x:=by
   obtain ⟨q,a,b,c⟩:=x
   show SizeOf.sizeOf q < 1 + SizeOf.sizeOf q + _ + _ + _
   omega
  have h4:SizeOf.sizeOf (x :: l) = 1 + SizeOf.sizeOf x + SizeOf.sizeOf l:=rfl
  obtain ⟨ws,e1,e2⟩:=deep_rLq2 σ n h2 (by omega)
  obtain ⟨n,rfl⟩:∃ k,n = k + 2:=⟨n - 2,by omega⟩
  obtain ⟨w,e3,e4⟩:=deep_QV2 h1 (n + 1) (by omega)
  refine ⟨w :: ws,?_,e2.cons e4⟩
  have e5:deep Tryz.prog σ (n + 2) (.agg (rcl v x)) = some (.agg (rcl w x)):=by
   show ((rcl v x).mapM (deep Tryz.prog σ (n + 1))).map AV.agg = _
   unfold rcl
   simp only [List.mapM_cons,List.mapM_nil,e3]
   rfl
  show ((AV.agg (rcl v x)) :: rLq qs l).mapM _ = _
  rw [List.mapM_cons,e5,e1]; rfl
theorem rLq_wk2:∀ {qs:List AV} {l:List RI},QsLr qs l -> WkL (flat (rLq qs l)) (flat (rL l)) /\ (rLq qs l).length = (rL l).length
 | [],[],_ => ⟨.nil,rfl⟩
 | [],x :: l,h => by have:=h.1; simp at this
 | v :: qs,[],h => by have:=h.1; simp at this
 | v :: qs,x :: l,h => by
  obtain ⟨h1,h2⟩:=h.tail
  obtain ⟨k1,k2⟩:=rLq_wk2 h2
  refine ⟨?_,?_⟩
  ·show WkL (flat (.agg (rcl v x) :: rLq qs l)) (flat (.agg (rcells x) :: rL l))
   rw [flat_cons,flat_cons]
   refine WkL.append (.cons ?_ (.refl _)) k1
   rcases h1 with (rfl | ⟨rfl,h1⟩) | rfl
   ·exact .refl _
   ·rw [h1]; exact Wk.nil 4
   ·exact Wk.slice 4 _ _
  ·show (rLq qs l).length + 1 = (rL l).length + 1
   rw [k2]

def RAt2 (σ:State) (v:AV) (m:RM):Prop:=∃ (c:MH) (id:Nat) (g:Bool) (tv:AV) (qs:List AV),v = .agg [.rslice id 0 m.I.length,tv,.int .i64 (m.work:Int),.int .i64 (m.puts:Int)] /\ QsL2 σ qs m.I /\ At c σ /\ c .ins = some (id,.cells (flat (rLq qs m.I)) 164 4 g) /\ RoAt c .turn 3 1 tv (intsV m.turn)
def DAt (σ:State) (v:AV) (m:RM):Prop:=∀ n,2 * SizeOf.sizeOf m.I + 10 < n -> ∃ v',deep Tryz.prog σ n v = some v' /\ Wk v' (rmV m)
theorem RAt.d {σ:State} {v:AV} {m:RM} (h:RAt σ v m):DAt σ v m:=fun n hn => deep_RAt h hn
theorem deep_ints {c:MH} {σ:State} {r:MRole} {tv:AV} {l:List Nat} (hA:At c σ) (ht:RoAt c r 3 1 tv (intsV l)) (n:Nat):∃ v',deep Tryz.prog σ (n + 2) tv = some v' /\ Wk v' (.slice 1 (intsV l) .any):=by
 rcases ht with ⟨rfl,hnil⟩ | ⟨tid,off,k,tg,pre,rfl,htc,hpl,hcl⟩
 ·refine ⟨_,rfl,?_⟩
  rw [hnil]; exact Wk.nil 1
 ·refine ⟨.slice 1 (intsV l) .nn,?_,Wk.slice 1 _ _⟩
  refine deep_rslice (hA.obj htc) kind3 rfl (by omega) (by rw [List.length_append]; omega) ?_
  rw [List.drop_left' hpl,List.take_of_length_le (by omega),chunk_one _ _ (by omega),List.take_of_length_le (by omega),deep_intsV]
theorem RAt2.d {σ:State} {v:AV} {m:RM} (h:RAt2 σ v m):DAt σ v m:=by
 intro n hn
 obtain ⟨n,rfl⟩:∃ k,n = k + 3:=⟨n - 3,by omega⟩
 obtain ⟨c,id,g,tv,qs,rfl,hqs,hA,hi,ht⟩:=h
 obtain ⟨ws,e1,e2⟩:=deep_rLq2 σ (n + 1) hqs (by omega)
 have ha:deep Tryz.prog σ (n + 2) (.rslice id 0 m.I.length) = some (.slice 4 (rLq ws m.I) .nn):=by
  refine deep_rslice (hA.obj hi) kind164 rfl (by omega) (by rw [flat_rLq_len hqs.1]; omega) ?_
  rw [Nat.zero_mul,List.drop_zero,List.take_of_length_le (by rw [flat_rLq_len hqs.1]; omega),chunk_rLq hqs.1,e1]
 have hwk:Wk (.slice 4 (rLq ws m.I) .nn) (.slice 4 (rL m.I) .any):=Wk.sliceL (rLq_wk2 e2).2 (rLq_wk2 e2).1 (rL_sz _) (rL_one _)
 obtain ⟨b',hb,hbw⟩:=deep_ints hA ht n
 refine ⟨.agg [.slice 4 (rLq ws m.I) .nn,b',.int .i64 (m.work:Int),.int .i64 (m.puts:Int)],?_,Wk.agg (.cons hwk (.cons hbw (.refl _)))⟩
 show ([AV.rslice id 0 m.I.length,tv,.int .i64 (m.work:Int),.int .i64 (m.puts:Int)].mapM (deep Tryz.prog σ (n + 2))).map AV.agg = _
 simp only [List.mapM_cons,List.mapM_nil,ha,hb]
 rfl

theorem rsetq:∀ {qs:List AV} {l:List RI} {i:Nat} {x:RI} {v:AV} (hl:qs.length = l.length) (h:i < l.length) (hx:x.op = l[i].op /\ x.fr = l[i].fr /\ x.bh = l[i].bh),asplice (flat (rLq qs l)) (i * 4 + 0) [v] = flat (rLq (qs.set i v) (l.set i x))
 | q :: qs,y :: l,0,x,v,hl,h,hx => by
  show asplice (flat (.agg (rcl q y) :: rLq qs l)) _ _ = flat (.agg (rcl v x) :: rLq qs l)
  rw [flat_cons,flat_cons]
  obtain ⟨h1,h2,h3⟩:=hx
  simp only [List.getElem_cons_zero] at h1 h2 h3
  show asplice ([q,.bool y.op,.bool y.fr,.int .i64 y.bh] ++ _) 0 [v] = [v,.bool x.op,.bool x.fr,.int .i64 x.bh] ++ _
  rw [h1,h2,h3]
  unfold asplice
  simp
 | q :: qs,y :: l,i + 1,x,v,hl,h,hx => by
  have ih:=rsetq (qs:=qs) (l:=l) (i:=i) (x:=x) (v:=v) (by simpa using hl) (by simpa using h) (by simpa using hx)
  show asplice (flat (.agg (rcl q y) :: rLq qs l)) _ _ = flat (.agg (rcl q y) :: rLq (qs.set i v) (l.set i x))
  rw [flat_cons,flat_cons,<-ih]
  show asplice (rcl q y ++ _) _ _ = rcl q y ++ _
  unfold asplice
  have h4:(rcl q y).length = 4:=rfl
  rw [List.take_append,List.drop_append,List.take_of_length_le (by omega),List.drop_of_length_le (by simp; omega),h4,show (i + 1) * 4 + 0 - 4 = i * 4 + 0 by omega,show (i + 1) * 4 + 0 + [v].length - 4 = i * 4 + 0 + [v].length by simp; omega]
  simp
 | [],[],i,x,v,hl,h,hx => by simp at h
 | [],y :: l,i,x,v,hl,h,hx => by simp at hl
 | q :: qs,[],i,x,v,hl,h,hx => by simp at h

theorem DAt.agg {σ:State} {v:AV} {m:RM} (h:DAt σ v m):∀ n,2 * SizeOf.sizeOf m.I + 10 < n -> ∃ v',deep Tryz.prog σ n v = some v' /\ Wk v' (rmV m):=h

section
variable {B:Nat} {w0:World} {G:Nat -> AV}
variable (hG:∀ i,NoId (G i))
include hG
theorem pureT {f N:Nat} {args ws:List AV} {Q:AV -> State -> Prop} {σ:State} (ha:∀ x ∈ args,NoId x) (hw:∀ x ∈ ws,NoId x)
  (h:ACalls (EV B w0 G) f args noObj (fun v σ' => ∃ vs vs',v = .tuple vs /\ vs.mapM (deep Tryz.prog σ' N) = some vs' /\ WkL vs' ws)) (hQ:Q (.tuple ws) σ.untok):ACalls (EV B w0 G) f args σ Q:=by
 refine .pureD (N + 1) hG ha h fun v σ' ⟨vs,vs',hv,h1,h2⟩ => ?_
 subst hv
 refine ⟨.tuple vs',_,?_,Wk.tuple h2,.tuple hw,hQ⟩
 show (vs.mapM (deep Tryz.prog σ' N)).map AV.tuple = _
 rw [h1]; rfl
theorem pureRd {f:Nat} {args:List AV} {m':RM} {e:Int} {Q:AV -> State -> Prop} {σ:State} (ha:∀ x ∈ args,NoId x) (h:ACalls (EV B w0 G) f args noObj (fun v σ' => ∃ rv,v = .tuple [rv,.int .i64 e] /\ DAt σ' rv m'))
  (hQ:Q (.tuple [rmV m',.int .i64 e]) σ.untok):ACalls (EV B w0 G) f args σ Q:=by
 refine pureT hG (N:=2 * SizeOf.sizeOf m'.I + 11) ha (fun x hx => ?_) (h.mono fun v σ' ⟨rv,hv,hd⟩ => ?_) hQ
 ·simp only [List.mem_cons,List.not_mem_nil,or_false] at hx
  rcases hx with rfl | rfl
  ·exact rmV_noId m'
  ·exact .int _ _
 ·obtain ⟨v',h1,h2⟩:=hd (2 * SizeOf.sizeOf m'.I + 11) (by omega)
  refine ⟨_,[v',.int .i64 e],hv,?_,.cons h2 (.refl _)⟩
  simp only [List.mapM_cons,List.mapM_nil,h1]
  rfl
end
end Go.V
/- The reference's Put, over values. -/
namespace Go.V
open Go Go.Proofs

def C97v:Contract:=fun args σ K => ∃ (m:RM) (i:Int) (t:T),args = [rmV m,.int .i64 i,.agg (tc t)] /\ (m.Wf /\ t.bulk <= 1099511627776) /\ K (.tuple [rmV (m.put i t).1,.int .i64 (m.put i t).2]) σ.untok

def GQv (c:MH) (v:AV) (q:List T):Prop:=(v = .slice 4 [] .full /\ q = []) \/ ∃ (id:Nat) (g:Bool),v = .rslice id 0 q.length /\ c (.x 0) = some (id,.cells (flat (tcellL q)) 37 4 g)
structure IQ97 (m:RM) (k:Nat) (gid:Nat) (g:Bool) (tv:AV) (y:YQ):Prop where
 at_:At y.c y.σ
 ins:y.c .ins = some (gid,.cells (flat (rL m.I)) 164 4 g)
 turn:SlAt y.c .turn 3 1 tv (intsV m.turn)
 q:GQv y.c y.qv ((m.at k).q.take y.i)
 i:y.i <= (m.at k).q.length
theorem tcellL_snoc (l:List T) (t:T):flat (tcellL (l ++ [t])) = flat (tcellL l) ++ tc t:=by
 rw [tcellL_eq,List.map_append,flat_append,<-tcellL_eq]
 congr 1
 cases t
 simp [flat,AV.cells,tcell,tc]
 exact ⟨rfl,rfl,rfl,rfl⟩

section
variable {B:Nat} {w0:World} {G:Nat -> AV}
theorem H97_ok (hG:∀ i,NoId (G i)):HOk1 (EV B w0 G) (H97 (EV B w0 G)):=hnd_ok (EV_mixed B w0 G) (contracts_cons c93_ok (contracts_cons (c32_ok hG) (contracts_cons c94_ok contracts_nil)))

theorem loop97 {m:RM} {k:Nat} {id n w p:Nat} {g:Bool} {tv:AV} {t:T} (hk:k < m.I.length) (hn:n = m.I.length) (hq5:(m.at k).q.length <= 100000) {y0:YQ} (h0:IQ97 m k id g tv y0) (Q:Post) (a:AAct) (σ:State)
  (ha:atF a ((ls97 (k:Int) id n w p (m.at k).q.length tv t (IQ97 m k id g tv)).F y0) (FL97 id n w p tv t) (y0.σ.Le σ))
  (h1:∀ y':YQ,(IQ97 m k id g tv y' /\ y'.i = (m.at k).q.length) -> y'.qv = .slice 4 [] .full -> Q (.exit 0) (frm (F97 (k:Int) (.slice 4 [] .full)) (FL97 id n w p tv t)) y'.σ)
  (h2:∀ (y':YQ) (qid qn:Nat),(IQ97 m k id g tv y' /\ y'.i = (m.at k).q.length) -> y'.qv = .rslice qid 0 qn -> Q (.exit 0) (frm (F97 (k:Int) (.rslice qid 0 qn)) (FL97 id n w p tv t)) y'.σ) :
  AWp (EV B w0 G) none (fnTmps Tryz.prog 97) (.loop (bodyOf (fnPart Tryz.prog [] 97 0))) Q a σ:=by
 refine awp_loopS (ls97 (k:Int) id n w p (m.at k).q.length tv t (IQ97 m k id g tv)) (x0:=y0) (fun y hI => ?_) (fun y hI e a σ hne kk => ?_) h0 ha
 ·have hI:IQ97 m k id g tv y:=hI
  show AWp _ _ _ _ _ (frm [(1,.v (.int .i64 (k:Int))),(3,.l 3 0),(5,.l 5 0),(6,.l 6 0),(8,.v y.qv),(9,.v (.int .i64 (y.i:Int)))] (FL97 id n w p tv t)) y.σ
  have hi:=hI.i
  have w1:IntKind.wrap .i64 ((y.i:Int) + 1) = ((y.i + 1:Nat):Int):=by rw [wr_small (by omega) (by omega)]; omega
  have ho:=hI.at_.obj hI.ins
  have hkn:(0:Int) <= (k:Int) /\ (k:Int) < (n:Int):=by omega
  have hbd:(0 + Int.toNat (k:Int)) * 4 + 0 < (flat (rL m.I)).length:=by rw [Int.toNat_natCast,flat_rL_len]; omega
  have rdk:List.getD (flat (rL m.I)) ((0 + Int.toNat (k:Int)) * 4 + 0) .undef = .slice 4 (tcellL (m.at k).q) .any:=by
   rw [Int.toNat_natCast,Nat.zero_add,<-rLq_slice,rget (sliceQ_len _) hk (by omega),at_get hk,sliceQ_get hk,at_get hk]; rfl
  have hlt:(y.i:Int) < ((tcellL (m.at k).q).length:Int) -> y.i < (m.at k).q.length:=fun h => by rw [tcellL_length] at h; omega
  have hμ:y.i < (m.at k).q.length -> (m.at k).q.length - (y.i + 1) < (m.at k).q.length - y.i:=fun h => by omega
  have htk:∀ h:y.i < (m.at k).q.length,(m.at k).q.take (y.i + 1) = (m.at k).q.take y.i ++ [(m.at k).q[y.i]]:=fun h => by rw [List.take_add_one,List.getElem?_eq_getElem h]; rfl
  rcases hI.q with ⟨e,hnil⟩ | ⟨qid,qg,e,hs⟩
  ·rw [e]
   refine wpX_ok H0_ok (EV_mixed B w0 G) (L:=fun _ _ _ _ => False) _ _ _ _ (fun p hp hc Q a σ k => k.elim) (by kernel_rfl) ((vc97ln B w0 G (k:Int) id n w p _ tv t _ y).mpr ⟨⟨_,g⟩,ho,hkn,⟨_,g⟩,ho,hbd,(m.at k).q,rdk,bcase_of (fun h => ?_) (fun h => ⟨fun h2 => ?_,rfl,rfl,rfl,rfl,by rw [e],rfl,rfl,rfl,.refl _⟩)⟩)
   ·have h:=of_decide_eq_true h
    have hk2:=hlt h
    obtain ⟨c2,g1,g2,g3,g4⟩:∃ c2:MH,At c2 (y.σ.new (.cells (tc (m.at k).q[y.i]) 37 4 true)) /\ c2 (.x 0) = some (y.σ.next,.cells (tc (m.at k).q[y.i]) 37 4 true) /\ c2 .ins = y.c .ins /\ c2 .turn = y.c .turn:=⟨_,hI.at_.new (.x 0) _,hup_self,hup_ne (by simp),hup_ne (by simp)⟩
    refine ⟨⟨_,g⟩,ho,hkn,⟨_,g⟩,ho,hbd,(m.at k).q,rdk,⟨by omega,h⟩,(m.at k).q[y.i],by rw [Int.toNat_natCast]; exact tcellL_get hk2,⟨by decide,by decide⟩,⟨y.σ.new (.cells (tc (m.at k).q[y.i]) 37 4 true),c2,.rslice y.σ.next 0 1,y.i + 1⟩,⟨⟨g1,g3.trans hI.ins,hI.turn.congr g4,?_,hk2⟩,hμ hk2⟩,rfl,rfl,rfl,rfl,rfl,by rw [w1],rfl,rfl,rfl,.refl _⟩
    dsimp only
    rw [htk hk2,hnil]
    refine .inr ⟨y.σ.next,true,rfl,?_⟩
    rw [g2,tcellL_snoc]; rfl
   ·have h:=of_decide_eq_false h; rw [tcellL_length] at h; omega
  ·rw [e]
   have hqo:=hI.at_.obj hs
   have hql:((m.at k).q.take y.i).length = y.i:=by rw [List.length_take]; omega
   refine wpX_ok H0_ok (EV_mixed B w0 G) (L:=fun _ _ _ _ => False) _ _ _ _ (fun p hp hc Q a σ k => k.elim) (by kernel_rfl) ((vc97lr B w0 G (k:Int) id n w p _ tv t qid _ _ y).mpr ⟨⟨_,g⟩,ho,hkn,⟨_,g⟩,ho,hbd,(m.at k).q,rdk,bcase_of (fun h => ?_) (fun h => ⟨fun h2 => ?_,rfl,rfl,rfl,rfl,by rw [e],rfl,rfl,rfl,.refl _⟩)⟩)
   ·have h:=of_decide_eq_true h
    have hk2:=hlt h
    have htake:List.take (((m.at k).q.take y.i).length * 4) (flat (tcellL ((m.at k).q.take y.i))) = flat (tcellL ((m.at k).q.take y.i)):=List.take_of_length_le (by rw [flat_tcellL_length]; exact Nat.le_refl _)
    obtain ⟨c2,g1,g2,g3,g4⟩:∃ c2:MH,At c2 ((y.σ.set qid .dead).new (.cells (flat (tcellL ((m.at k).q.take y.i)) ++ tc (m.at k).q[y.i]) 37 4 true)) /\ c2 (.x 0) = some (y.σ.next,.cells (flat (tcellL ((m.at k).q.take y.i)) ++ tc (m.at k).q[y.i]) 37 4 true) /\ c2 .ins = y.c .ins /\ c2 .turn = y.c .turn:=⟨_,hI.at_.grow hs _,hup_self,hup_ne (by simp),hup_ne (by simp)⟩
    refine ⟨⟨_,g⟩,ho,hkn,⟨_,g⟩,ho,hbd,(m.at k).q,rdk,⟨by omega,h⟩,(m.at k).q[y.i],by rw [Int.toNat_natCast]; exact tcellL_get hk2,⟨_,qg⟩,hqo,⟨rfl,⟨by omega,by omega⟩,by show _ <= (flat (tcellL ((m.at k).q.take y.i))).length; rw [flat_tcellL_length]; exact Nat.le_refl _⟩,
     ⟨(y.σ.set qid .dead).new (.cells (flat (tcellL ((m.at k).q.take y.i)) ++ tc (m.at k).q[y.i]) 37 4 true),c2,.rslice y.σ.next 0 (y.i + 1),y.i + 1⟩,⟨⟨g1,g3.trans hI.ins,hI.turn.congr g4,?_,hk2⟩,hμ hk2⟩,rfl,rfl,rfl,rfl,by rw [hql],by rw [w1],rfl,rfl,rfl,?_⟩
    ·dsimp only
     refine .inr ⟨y.σ.next,true,?_,?_⟩
     ·rw [List.length_take]; congr 1; omega
     ·rw [htk hk2,g2,tcellL_snoc]
    ·show State.Le ((y.σ.set qid .dead).new (.cells (flat (tcellL ((m.at k).q.take y.i)) ++ tc (m.at k).q[y.i]) 37 4 true)) ((y.σ.set qid .dead).new (.cells (List.take (((m.at k).q.take y.i).length * 4) (flat (tcellL ((m.at k).q.take y.i))) ++ tc (m.at k).q[y.i]) 37 4 true))
     rw [htake]
     exact .refl _
   ·have h:=of_decide_eq_false h; rw [tcellL_length] at h; omega
 ·cases e with
  | exit i =>
   match i,kk with
   | 0,kk =>
    have hI:IQ97 m k id g tv y:=hI
    have hyi:y.i = (m.at k).q.length:=by have:=hI.i; have:=kk.1; omega
    have ha:=kk.2
    rcases hI.q with ⟨e,hnil⟩ | ⟨qid,qg,e,hs⟩
    ·rw [e] at ha
     exact ⟨_,_,(atF_ok ha).1,(atF_ok ha).2,h1 y ⟨hI,hyi⟩ e⟩
    ·rw [e] at ha
     exact ⟨_,_,(atF_ok ha).1,(atF_ok ha).2,h2 y _ _ ⟨hI,hyi⟩ e⟩
  | normal => exact absurd rfl hne
  | _ => exact kk.elim

theorem c97_ok (hG:∀ i,NoId (G i)):ContractOk (EV B w0 G) 97 C97v:=by
 rintro args σ Q ⟨m,i,t,rfl,⟨hW,hbulk⟩,hQ⟩
 refine pureRd hG (fun y hy => ?_) ?_ hQ
 ·simp only [List.mem_cons,List.not_mem_nil,or_false] at hy
  rcases hy with rfl | rfl | rfl
  ·exact rmV_noId m
  ·exact .int _ _
  ·exact .agg (tc_noId t)
 have hlen:=hW.w.len
 have htl:=nd_len hW.w
 have hwk:=hW.w.work
 have hpu:=hW.w.puts
 refine bodyX_ok (cuts:=[]) (EV_mixed B w0 G) (H97_ok hG) (fun lp hl _ Q a σ kk => ?_) ((vc97 B w0 G m i t (fun gq y => ∃ (k:Nat) (g:Bool),(i = (k:Int) /\ k < m.I.length /\ gq.n = m.I.length /\ gq.L = (m.at k).q.length /\ gq.L <= 100000 /\ gq.w = m.work /\ gq.p = m.puts) /\ IQ97 m k gq.id g gq.tv y) (fun gq y => ∃ (k:Nat) (g:Bool),(i = (k:Int) /\ gq.w = m.work /\ gq.p = m.puts /\ gq.n = m.I.length) /\ IQ97 m k gq.id g gq.tv y /\ y.i = (m.at k).q.length) _).mpr ?_)
 ·change lp ∈ fnParts Tryz.prog [] 97 at hl
  rw [fnParts_97] at hl
  simp only [List.mem_cons,List.not_mem_nil,or_false] at hl
  subst hl
  obtain ⟨gq,y,⟨k,g,⟨rfl,hk,hn,hL,hL5,hgw,hgp⟩,hI⟩,ha,h1,h2⟩:=kk
  rw [hL] at ha hL5
  exact loop97 hk hn hL5 hI Q a σ ha (fun y' ⟨q1,q2⟩ e => h1 y' ⟨k,g,⟨rfl,hgw,hgp,hn⟩,q1,q2⟩ e) (fun y' qid qn ⟨q1,q2⟩ e => h2 y' qid qn ⟨k,g,⟨rfl,hgw,hgp,hn⟩,q1,q2⟩ e)
 refine ⟨m,i,rfl,bcase_of (fun h => ?_) (fun h => ?_)⟩
 ·have ho:m.opened i = none:=by
   cases ho:m.opened i with
   | none => rfl
   | some k => rw [ho] at h; cases h
  have e:m.put i t = (m,90):=by unfold RM.put; rw [ho]
  rw [e]
  exact ⟨_,rfl,(RAt.d (.inl rfl))⟩
 obtain ⟨k,ho⟩:∃ k,m.opened i = some k:=by
  cases ho:m.opened i with
  | none => rw [ho] at h; cases h
  | some k => exact ⟨k,rfl⟩
 obtain ⟨rfl,hk,hop⟩:=opened_some ho
 refine ⟨t,rfl,hbulk,bcase_of (fun hc => ?_) (fun hc => bcase_of (fun hp => ?_) (fun hp => ?_))⟩
 ·have hc:chkT t ≠ 0:=by simpa using hc
  have e:m.put (k:Int) t = (m,3):=by unfold RM.put; rw [ho]; simp only; rw [if_pos hc]
  rw [e]
  exact ⟨_,rfl,(RAt.d (.inl rfl))⟩
 ·have hc:¬ chkT t ≠ 0:=by simpa using hc
  have hp:20000 <= m.puts:=by have:=of_decide_eq_true hp; omega
  have e:m.put (k:Int) t = (m,91):=by unfold RM.put; rw [ho]; simp only; rw [if_neg hc,if_pos hp]
  rw [e]
  exact ⟨_,rfl,(RAt.d (.inl rfl))⟩
 have hc:¬ chkT t ≠ 0:=by simpa using hc
 have hp:¬ 20000 <= m.puts:=by have:=of_decide_eq_false hp; omega
 have e:m.put (k:Int) t = (m.put1 k t,0):=by unfold RM.put; rw [ho]; simp only; rw [if_neg hc,if_neg hp]
 rw [e]
 have hql:=q_le m k
 have hqp:=hW.w.qp
 have ww:IntKind.wrap .i64 ((m.work:Int) + 1) = ((m.work + 1:Nat):Int):=by rw [wr_small (by omega) (by omega)]; omega
 have wp:IntKind.wrap .i64 ((m.puts:Int) + 1) = ((m.puts + 1:Nat):Int):=by rw [wr_small (by omega) (by omega)]; omega
 refine ⟨m,noneH,rfl,⟨noneH_at _,by omega,by omega,fun h => by rw [h] at hk; simp at hk⟩,fun id g tv c' σ' ⟨g1,g2,g3,g4⟩ => ?_⟩
 have hone:=g3.one
 refine bcase_of (fun _ => ?_) (fun h => by rw [hone] at h; cases h)
 refine ⟨⟨id,m.I.length,m.work,m.puts,(m.at k).q.length,tv⟩,⟨σ',c',.slice 4 [] .full,0⟩,⟨k,g,⟨rfl,hk,rfl,rfl,by dsimp only; omega,rfl,rfl⟩,g1,g2,g3,.inl ⟨rfl,List.take_zero⟩,Nat.zero_le _⟩,⟨rfl,rfl,rfl,rfl,rfl,rfl,rfl,rfl,rfl,.refl _⟩,?_⟩
 -- behind the append
 have hI':(m.put1 k t).I = m.I.set k { m.at k with q:=(m.at k).q ++ [t] }:=rfl
 have hset:∀ v:AV,asplice (flat (rL m.I)) ((0 + Int.toNat (k:Int)) * 4 + 0) [v] = flat (rLq ((sliceQ m.I).set k v) (m.put1 k t).I):=fun v => by
  rw [Int.toNat_natCast,Nat.zero_add,<-rLq_slice,hI']
  exact rsetq (sliceQ_len _) hk ⟨by rw [at_get hk],by rw [at_get hk],by rw [at_get hk]⟩
 have hl2:∀ v:AV,((sliceQ m.I).set k v).length = (m.put1 k t).I.length:=fun v => by rw [hI',List.length_set,List.length_set,sliceQ_len]
 have hfl:∀ v:AV,(flat (rLq ((sliceQ m.I).set k v) (m.put1 k t).I)).length = m.I.length * 4:=fun v => by rw [flat_rLq_len (hl2 v),hI',List.length_set]
 have hml:(m.put1 k t).I.length = m.I.length:=List.length_set
 have rdf:∀ v:AV,List.getD (flat (rLq ((sliceQ m.I).set k v) (m.put1 k t).I)) ((0 + Int.toNat (k:Int)) * 4 + 2) .undef = .bool (m.at k).fr:=fun v => by
  rw [Int.toNat_natCast,Nat.zero_add,rget (hl2 v) (by rw [hml]; exact hk) (by omega)]
  show AV.bool ((m.put1 k t).I[k]).fr = _
  congr 1
  show (((m.I.set k { m.at k with q:=(m.at k).q ++ [t] })[k]'(by rw [List.length_set]; exact hk))).fr = _
  rw [List.getElem_set_self]
 have hbd0:(0 + Int.toNat (k:Int)) * 4 + 0 + 1 <= (flat (rL m.I)).length:=by rw [Int.toNat_natCast,flat_rL_len]; omega
 have hkn:(0:Int) <= (k:Int) /\ (k:Int) < (m.I.length:Int):=by omega
 have finD:∀ {σ4:State} {c4:MH} {tv':AV} {qid nn:Nat} {g4:Bool},nn = (m.at k).q.length + 1 -> At c4 σ4 -> c4 .ins = some (id,.cells (flat (rLq ((sliceQ m.I).set k (.rslice qid 0 nn)) (m.put1 k t).I)) 164 4 g4) -> c4 (.x 0) = some (qid,.cells (flat (tcellL ((m.at k).q ++ [t]))) 37 4 true) -> RoAt c4 .turn 3 1 tv' (intsV (m.put1 k t).turn) ->
   DAt σ4 (.agg [.rslice id 0 m.I.length,tv',.int .i64 (IntKind.wrap .i64 ((m.work:Int) + 1)),.int .i64 (IntKind.wrap .i64 ((m.puts:Int) + 1))]) (m.put1 k t):=fun {σ4 c4 tv' qid nn g4} hnn a1 a2 a3 a4 => by
  subst hnn
  refine RAt2.d ⟨c4,id,g4,tv',_,by rw [ww,wp,hml]; rfl,⟨hl2 _,fun j hj => ?_⟩,a1,a2,a4⟩
  have hj':j < m.I.length:=by rw [hml] at hj; exact hj
  have hgj:((sliceQ m.I).set k (.rslice qid 0 ((m.at k).q.length + 1))).getD j .undef = if k = j then .rslice qid 0 ((m.at k).q.length + 1) else .slice 4 (tcellL m.I[j].q) .any:=by
   by_cases e:k = j
   ·subst e; simp [List.getD,sliceQ_len,hk]
   ·rw [if_neg e,<-sliceQ_get hj']
    simp [List.getD,e]
  rw [hgj]
  by_cases e:k = j
  ·subst e
   rw [if_pos rfl]
   have e2:((m.put1 k t).I[k]).q = (m.at k).q ++ [t]:=by
    show (((m.I.set k { m.at k with q:=(m.at k).q ++ [t] })[k]'(by rw [List.length_set]; exact hk))).q = _
    rw [List.getElem_set_self]
   rw [e2]
   exact .inr ⟨qid,true,by simp,a1.obj a3⟩
  ·rw [if_neg e]
   have e2:((m.put1 k t).I[j]).q = m.I[j].q:=by
    show (((m.I.set k { m.at k with q:=(m.at k).q ++ [t] })[j]'(by rw [List.length_set]; exact hj'))).q = _
    rw [List.getElem_set_ne e]
   rw [e2]
   exact .inl (.inl rfl)
 have hturn0:¬ ((m.at k).fr = true /\ (m.at k).q = []) -> (m.put1 k t).turn = m.turn:=fun h => by
  show (if _ then _ else _) = _
  rw [if_neg]
  rintro h2
  rw [Bool.and_eq_true,List.isEmpty_iff] at h2
  exact h h2
 have hturn1:(m.at k).fr = true -> (m.at k).q = [] -> (m.put1 k t).turn = m.turn ++ [k]:=fun h1 h2 => by
  show (if _ then _ else _) = _
  rw [if_pos]
  rw [h1,h2]; rfl
 -- the store,and the states behind it
 have hst:∀ {σ1:State} {c1:MH} {qid:Nat} {nn:Nat} {tv1:AV} {g:Bool},At c1 σ1 -> c1 .ins = some (id,.cells (flat (rL m.I)) 164 4 g) -> c1 (.x 0) = some (qid,.cells (flat (tcellL ((m.at k).q ++ [t]))) 37 4 true) -> SlAt c1 .turn 3 1 tv1 (intsV m.turn) ->
   ∃ c2:MH,At c2 (σ1.set id (.cells (flat (rLq ((sliceQ m.I).set k (.rslice qid 0 nn)) (m.put1 k t).I)) 164 4 g)) /\ c2 .ins = some (id,.cells (flat (rLq ((sliceQ m.I).set k (.rslice qid 0 nn)) (m.put1 k t).I)) 164 4 g) /\ c2 (.x 0) = some (qid,.cells (flat (tcellL ((m.at k).q ++ [t]))) 37 4 true) /\ SlAt c2 .turn 3 1 tv1 (intsV m.turn):=fun {σ1 c1 qid nn tv1 g} a1 a2 a3 a4 =>
  ⟨_,a1.set a2 _,hup_self,(hup_ne (by simp)).trans a3,a4.congr (hup_ne (by simp))⟩
 have h8:∀ n:Nat,n <= 5000 -> (n + 1) * 8 <= 140737488355328 /\ n + 1 <= 4611686018427387904:=fun n h => by omega
 refine ⟨fun y' ⟨k2,g',⟨hk2,_,_,_⟩,hI,hyi⟩ e => ?_,fun y' qid qn ⟨k2,g',⟨hk2,_,_,_⟩,hI,hyi⟩ e => ?_⟩
 all_goals
  obtain rfl:k = k2:=by omega
  have hIi:=hI.ins
  have hIq:=hI.q
  have hIt:=hI.turn
  rw [hyi,List.take_length] at hIq
  dsimp only at hIi hIt
 ·rcases hIq with ⟨_,hnil⟩ | ⟨qid,qg,e2,hs⟩
  rotate_left
  ·rw [e] at e2; cases e2
  have hq1:tc t = flat (tcellL ((m.at k).q ++ [t])):=by rw [tcellL_snoc,hnil]; rfl
  obtain ⟨c1,a1,a2,a3,a4⟩:∃ c1:MH,At c1 (y'.σ.new (.cells (tc t) 37 4 true)) /\ c1 .ins = some (id,.cells (flat (rL m.I)) 164 4 g') /\ c1 (.x 0) = some (y'.σ.next,.cells (flat (tcellL ((m.at k).q ++ [t]))) 37 4 true) /\ SlAt c1 .turn 3 1 tv (intsV m.turn) :=
   ⟨_,hI.at_.new (.x 0) _,(hup_ne (by simp)).trans hIi,by rw [<-hq1]; exact hup_self,hIt.congr (hup_ne (by simp))⟩
  have hq0:(m.at k).q.length + 1 = 1:=by rw [hnil]; rfl
  obtain ⟨c2,b1,b2,b3,b4⟩:=hst (qid:=y'.σ.next) (nn:=1) a1 a2 a3 a4
  have ho1:=a1.obj a2
  have ho2:=b1.obj b2
  refine ⟨⟨by decide,by decide⟩,⟨flat (rL m.I),g'⟩,ho1,hkn,⟨flat (rL m.I),g'⟩,ho1,hbd0,?_⟩
  dsimp only
  rw [hset]
  refine ⟨⟨flat (rLq ((sliceQ m.I).set k (.rslice y'.σ.next 0 1)) (m.put1 k t).I),g'⟩,ho2,hkn,⟨flat (rLq ((sliceQ m.I).set k (.rslice y'.σ.next 0 1)) (m.put1 k t).I),g'⟩,ho2,by rw [Int.toNat_natCast,hfl]; omega,(m.at k).fr,rdf _,bcase_of (fun hf => ?_) (fun hf => bcase_of (fun _ => ?_) (fun h => by rw [hone] at h; cases h))⟩
  ·rcases b4.inv with ⟨e3,htn⟩ | ⟨tid,tn,tg,e3,htc,htl⟩
   ·refine .inl ⟨e3,⟨by decide,by decide⟩,_,rfl,?_⟩
    refine finD (c4:=hup c2 .turn (some (_,_))) (by omega) (b1.new .turn _) ((hup_ne (by simp)).trans b2) ((hup_ne (by simp)).trans b3) ?_
    rw [hturn1 hf hnil,intsV_append,htn]
    exact .inr ⟨_,0,1,true,[],rfl,hup_self,rfl,rfl⟩
   ·rw [intsV_len,Nat.mul_one] at htl
    obtain ⟨h81,h82⟩:=h8 tn (by omega)
    refine .inr ⟨⟨tid,tn⟩,e3,⟨intsV m.turn,tg⟩,b1.obj htc,⟨rfl,⟨h81,h82⟩,by show tn * 1 <= (intsV m.turn).length; rw [intsV_len]; omega⟩,_,rfl,?_⟩
    have htk:List.take (tn * 1) (intsV m.turn) = intsV m.turn:=List.take_of_length_le (by rw [intsV_len]; omega)
    dsimp only
    rw [htk]
    refine finD (c4:=hup c2 .turn (some (_,_))) (by omega) (b1.grow htc _) ((hup_ne (by simp)).trans b2) ((hup_ne (by simp)).trans b3) ?_
    rw [hturn1 hf hnil,intsV_append]
    exact .inr ⟨_,0,tn + 1,true,[],rfl,hup_self,rfl,by rw [List.length_append,intsV_len]; show _ + 1 = (tn + 1) * 1; omega⟩
  ·refine ⟨_,rfl,finD (by omega) b1 b2 b3 ?_⟩
   rw [hturn0 (fun h => by rw [h.1] at hf; cases hf)]
   exact b4.ro
 ·rcases hIq with ⟨e2,hnil⟩ | ⟨qid',qg,e2,hs⟩
  ·rw [e] at e2; cases e2
  rw [e] at e2
  simp only [AV.rslice.injEq] at e2
  obtain ⟨rfl,_,rfl⟩:=e2
  have hqo:=hI.at_.obj hs
  have htq:List.take ((m.at k).q.length * 4) (OE.cs ⟨flat (tcellL (m.at k).q),qg⟩) = flat (tcellL (m.at k).q):=List.take_of_length_le (by show (flat (tcellL (m.at k).q)).length <= _; rw [flat_tcellL_length]; exact Nat.le_refl _)
  obtain ⟨c1,a1,a2,a3,a4⟩:∃ c1:MH,At c1 ((y'.σ.set qid .dead).new (.cells (flat (tcellL (m.at k).q) ++ tc t) 37 4 true)) /\ c1 .ins = some (id,.cells (flat (rL m.I)) 164 4 g') /\ c1 (.x 0) = some (y'.σ.next,.cells (flat (tcellL ((m.at k).q ++ [t]))) 37 4 true) /\ SlAt c1 .turn 3 1 tv (intsV m.turn) :=
   ⟨_,hI.at_.grow hs _,(hup_ne (by simp)).trans hIi,by rw [tcellL_snoc]; exact hup_self,hIt.congr (hup_ne (by simp))⟩
  obtain ⟨c2,b1,b2,b3,b4⟩:=hst (qid:=y'.σ.next) (nn:=(m.at k).q.length + 1) a1 a2 a3 a4
  have ho1:=a1.obj a2
  have ho2:=b1.obj b2
  refine ⟨⟨flat (tcellL (m.at k).q),qg⟩,hqo,⟨rfl,⟨by omega,by omega⟩,by show _ <= (flat (tcellL (m.at k).q)).length; rw [flat_tcellL_length]; exact Nat.le_refl _⟩,?_⟩
  dsimp only at htq ⊢
  rw [htq]
  refine ⟨⟨flat (rL m.I),g'⟩,ho1,hkn,⟨flat (rL m.I),g'⟩,ho1,hbd0,?_⟩
  dsimp only
  rw [hset]
  refine ⟨⟨flat (rLq ((sliceQ m.I).set k (.rslice y'.σ.next 0 ((m.at k).q.length + 1))) (m.put1 k t).I),g'⟩,ho2,hkn,⟨flat (rLq ((sliceQ m.I).set k (.rslice y'.σ.next 0 ((m.at k).q.length + 1))) (m.put1 k t).I),g'⟩,ho2,by rw [Int.toNat_natCast,hfl]; omega,(m.at k).fr,rdf _,bcase_of (fun hf => bcase_of (fun hq1 => ?_) (fun hq1 => bcase_of (fun _ => ?_) (fun h => by rw [hone] at h; cases h))) (fun hf => bcase_of (fun _ => ?_) (fun h => by rw [hone] at h; cases h))⟩
  ·have hnil:(m.at k).q = []:=List.length_eq_zero_iff.1 (by have:=eq_of_beq hq1; omega)
   rcases b4.inv with ⟨e3,htn⟩ | ⟨tid,tn,tg,e3,htc,htl⟩
   ·refine .inl ⟨e3,⟨by decide,by decide⟩,_,rfl,?_⟩
    refine finD (c4:=hup c2 .turn (some (_,_))) rfl (b1.new .turn _) ((hup_ne (by simp)).trans b2) ((hup_ne (by simp)).trans b3) ?_
    rw [hturn1 hf hnil,intsV_append,htn]
    exact .inr ⟨_,0,1,true,[],rfl,hup_self,rfl,rfl⟩
   ·rw [intsV_len,Nat.mul_one] at htl
    obtain ⟨h81,h82⟩:=h8 tn (by omega)
    refine .inr ⟨⟨tid,tn⟩,e3,⟨intsV m.turn,tg⟩,b1.obj htc,⟨rfl,⟨h81,h82⟩,by show tn * 1 <= (intsV m.turn).length; rw [intsV_len]; omega⟩,_,rfl,?_⟩
    have htk:List.take (tn * 1) (intsV m.turn) = intsV m.turn:=List.take_of_length_le (by rw [intsV_len]; omega)
    dsimp only
    rw [htk]
    refine finD (c4:=hup c2 .turn (some (_,_))) rfl (b1.grow htc _) ((hup_ne (by simp)).trans b2) ((hup_ne (by simp)).trans b3) ?_
    rw [hturn1 hf hnil,intsV_append]
    exact .inr ⟨_,0,tn + 1,true,[],rfl,hup_self,rfl,by rw [List.length_append,intsV_len]; show _ + 1 = (tn + 1) * 1; omega⟩
  ·refine ⟨_,rfl,finD rfl b1 b2 b3 ?_⟩
   rw [hturn0 (fun h => ?_)]
   ·exact b4.ro
   ·rw [h.2] at hq1; cases hq1
  ·refine ⟨_,rfl,finD rfl b1 b2 b3 ?_⟩
   rw [hturn0 (fun h => by rw [h.1] at hf; cases hf)]
   exact b4.ro
end
end Go.V
