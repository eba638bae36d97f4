import Derived.Test.YtgnjidopnplbbaaGreatDoorN22
/- Conditions: New, Split, Turn, Inputs of a merger. -/
set_option maxRecDepth 1000000
set_option linter.unusedVariables false
namespace Go.V
open Go Go.Proofs

def IntsAt (σ:State) (v:AV) (l:List Nat):Prop:=(v = .nilslice /\ l = []) \/ ∃ (id off n:Nat) (cs:List AV) (g:Bool),v = .rslice id off n /\ σ.objs id = .cells cs 3 1 g /\ off + n <= cs.length /\ (cs.drop off).take n = intsV l
def C86r:Contract:=fun args σ K => ∃ (c:MH) (v:AV) (l:List Nat),args = [v] /\ (At c σ /\ IntsAt σ v l /\ l.length <= 1000000) /\ ∀ σ':State,At c σ' -> K (.slice 1 (intsV l) .any) σ'
/- New -/
def H41 (E:Env):Hand:=hnd E annA noHints [(83,C83m)]
def F41 (n:Int) (y:Y87):List (Nat × TV):=[(4,.v (.ptr y.L.M 0)),(15,.v (.int .i64 n)),(16,.v (.int .i64 (y.j:Int)))]
def ls41 (n:Int) (I:Y87 -> Prop):LS Y87 where
 F y:=F41 n y
 FL _:=[]
 S y:=y.σ
 I:=I
 μ y:=n.toNat - y.j
 Ex y e a σ:=match e with
  | .exit 0 => ¬ ((y.j:Int) < n) /\ atF a [(4,.v (.ptr y.L.M 0))] [] (y.σ.Le σ)
  | _ => False
theorem fnParts_41:fnParts Tryz.prog [] 41 = [.loop (bodyOf (fnPart Tryz.prog [] 41 0))]:=by kernel_rfl
theorem vc41l (B:Nat) (w0:World) (G:Nat -> AV) (n:Int) (I:Y87 -> Prop) (y:Y87):(wpX [] (EV B w0 G) (H41 (EV B w0 G)) (fun _ _ _ _ => False) (annA 41) noHint (bodyOf (fnPart Tryz.prog [] 41 0)) ((ls41 n I).post y) (frm (F41 n y) []) y.σ) =
 ((bcase (decide ((((Y87.j y:Nat):Int):Int) < (n)))
 (∃ c0:MH,(∃ L1:ML,(∃ p2:PM,(∃ b3:Bool,(([(AV.ptr (ML.M (Y87.L y)) 0),(AV.bool true)] = [(AV.ptr (ML.M L1) 0),(AV.bool (b3))])/\
 (((At c0 (y.1))/\
 ((Rep c0 L1 p2)/\
 (((List.length (PM.I p2)):Nat) <= 1000000)))/\
 (∀ c'4:MH,(∀ L'5:ML,(∀ σ'6:State,(((At c'4 σ'6)/\
 (((ML.M L'5:Nat) = (ML.M L1))/\
 ((Rep c'4 L'5 { I:=PM.I p2 ++ [{ op:=Bool.true,fr:=b3,beh:=[],q:=[] }],turn:=PM.turn p2,came:=PM.came p2,gone:=PM.gone p2,work:=PM.work p2,count:=PM.count p2 })/\
 ((∀ q7:MRole,(((q7 ∈ [MRole.m,MRole.ins,MRole.inp (List.length (PM.I p2))]) -> False) -> ((c'4 q7) = (c0 q7))))/\
 (∀ k7:Nat,(∀ id8:Nat,((((ML.ids L1)[k7]?) = (Option.some (id8))) -> (((ML.ids L'5)[k7]?) = (Option.some (id8)))))))))) -> (∃ x'7:Y87,(((I (x'7))/\
 (((LS.μ (ls41 n I) x'7):Nat) < (LS.μ (ls41 n I) y)))/\
 (((TV.v (AV.ptr (ML.M (Y87.L y)) 0)) = (TV.v (AV.ptr (ML.M (Y87.L x'7)) 0)))/\
 ((Rf (TV.v (AV.int .i64 (n))))/\
 (((TV.v (AV.int .i64 (IntKind.wrap .i64 (((Y87.j y:Nat):Int) + 1)))) = (TV.v (AV.int .i64 ((Y87.j x'7:Nat):Int))))/\
 (State.Le ((ls41 n I).3 x'7) σ'6))))))))))))))))
 ((((((Y87.j y:Nat):Int):Int) < (n)) -> False)/\
 ((Rf (TV.v (AV.ptr (ML.M (Y87.L y)) 0)))/\
 (State.Le (y.1) (y.1)))))):=by kernel_rfl
def T41 (n:Int) (I0 P:Y87 -> Prop):LHand:=fun _ Q a σ => ∃ (y:Y87),I0 y /\ atF a (F41 n y) [] (y.σ.Le σ) /\ ∀ y':Y87,P y' -> Q (.exit 0) (frm [(4,.v (.ptr y'.L.M 0))] []) y'.σ
theorem vc41 (B:Nat) (w0:World) (G:Nat -> AV) (n:Int) (I0 P:Y87 -> Prop) (σ:State) (Q:AV -> State -> Prop):(bodyX [] (EV B w0 G) (H41 (EV B w0 G)) (T41 n I0 P) annA noHint 41 [.int .i64 n] σ Q) =
 ((bcase (decide (((n):Int) < 0))
 (Q (AV.tuple [AV.nilptr,(AV.int .i64 1)]) σ)
 (bcase (decide (((n):Int) > 64))
 (Q (AV.tuple [AV.nilptr,(AV.int .i64 1)]) σ)
 (∃ y0:Y87,((I0 (y0))/\
 ((((TV.v (AV.ptr (State.next σ) 0)) = (TV.v (AV.ptr (ML.M (Y87.L y0)) 0)))/\
 ((Rf (TV.v (AV.int .i64 (n))))/\
 (((TV.v (AV.int .i64 0)) = (TV.v (AV.int .i64 ((Y87.j y0:Nat):Int))))/\
 (State.Le (y0.1) (State.new σ (AObj.cells [AV.nilslice,AV.nilslice,(AV.int .i64 0),(AV.int .i64 0),(AV.int .i64 0),(AV.int .i64 (n)),(AV.int .i64 (n))] 153 7 false))))))/\
 (∀ y'1:Y87,((P (y'1)) -> (Q (AV.tuple [(AV.ptr (ML.M (Y87.L y'1)) 0),(AV.int .i64 0)]) (y'1.1)))))))))):=by kernel_rfl
end Go.V
/- Conditions: Split, Inputs of a merger. -/
namespace Go.V
open Go Go.Proofs

def H42 (E:Env):Hand:=hnd E annA noHints [(83,C83m),(84,C84m),(85,C85m),(86,C86r),(87,C87m)]
def F42 (id:Nat) (n:Int) (y:Y87):List (Nat × TV):=[(0,.v (.ptr y.L.M 0)),(8,.v (.ptr id 0)),(56,.v (.int .i64 n)),(57,.v (.int .i64 (y.j:Int)))]
def ls42 (id:Nat) (n:Int) (I:Y87 -> Prop):LS Y87 where
 F y:=F42 id n y
 FL _:=[]
 S y:=y.σ
 I:=I
 μ y:=n.toNat - y.j
 Ex y e a σ:=match e with
  | .exit 1 => ¬ ((y.j:Int) < n) /\ atF a [(0,.v (.ptr y.L.M 0)),(8,.v (.ptr id 0))] [] (y.σ.Le σ)
  | _ => False
theorem fnParts_42:fnParts Tryz.prog [] 42 = [.loop (bodyOf (fnPart Tryz.prog [] 42 0))]:=by kernel_rfl
def N42 (r:Bool):FnHint:=hAt [(15,4,match r with | true => hIR | false => hIN),(15,10,match r with | true => hEl 3 1 | false => Hint.s),(15,13,hI)]
theorem vc42n (B:Nat) (w0:World) (G:Nat -> AV) (id:Nat) (n:Int) (I:Y87 -> Prop) (y:Y87):(wpX [] (EV B w0 G) (H42 (EV B w0 G)) (fun _ _ _ _ => False) (annA 42) (N42 false) (bodyOf (fnPart Tryz.prog [] 42 0)) ((ls42 id n I).post y) (frm (F42 id n y) []) y.σ) =
 ((bcase (decide ((((Y87.j y:Nat):Int):Int) < (n)))
 (∃ a0:OI,(((State.objs (y.1) (id)) = (AObj.cells [(AV.bool (OI.op a0)),(AV.bool (OI.fr a0)),(OI.bv a0),(OI.qv a0),(OI.qf a0)] 159 5 false))/\
 (((2:Nat) < 5)/\
 (∃ x1:Unit,(((List.getD [AV.bool (OI.op a0),AV.bool (OI.fr a0),OI.bv a0,OI.qv a0,OI.qf a0] 2 AV.undef) = AV.nilslice)/\
 (∃ c2:MH,(∃ L3:ML,(∃ p4:PM,(∃ b5:Bool,(([(AV.ptr (ML.M (Y87.L y)) 0),(AV.bool false)] = [(AV.ptr (ML.M L3) 0),(AV.bool (b5))])/\
 (((At c2 (y.1))/\
 ((Rep c2 L3 p4)/\
 (((List.length (PM.I p4)):Nat) <= 1000000)))/\
 (∀ c'6:MH,(∀ L'7:ML,(∀ σ'8:State,(((At c'6 σ'8)/\
 (((ML.M L'7:Nat) = (ML.M L3))/\
 ((Rep c'6 L'7 { I:=PM.I p4 ++ [{ op:=Bool.true,fr:=b5,beh:=[],q:=[] }],turn:=PM.turn p4,came:=PM.came p4,gone:=PM.gone p4,work:=PM.work p4,count:=PM.count p4 })/\
 ((∀ q9:MRole,(((q9 ∈ [MRole.m,MRole.ins,MRole.inp (List.length (PM.I p4))]) -> False) -> ((c'6 q9) = (c2 q9))))/\
 (∀ k9:Nat,(∀ id10:Nat,((((ML.ids L3)[k9]?) = (Option.some (id10))) -> (((ML.ids L'7)[k9]?) = (Option.some (id10)))))))))) -> ((Rf (TV.v (AV.ptr (id) 0)))/\
 ((Rf (TV.v (AV.ptr (id) 0)))/\
 ((Rf (TV.v (AV.ptr (id) 0)))/\
 ((Rf (TV.v (AV.ptr (id) 2)))/\
 ((∃ a9:OI,(((State.objs σ'8 (id)) = (AObj.cells [(AV.bool (OI.op a9)),(AV.bool (OI.fr a9)),(OI.bv a9),(OI.qv a9),(OI.qf a9)] 159 5 false))/\
 (((2:Nat) < 5)/\
 (∃ x10:Unit,(((List.getD [AV.bool (OI.op a9),AV.bool (OI.fr a9),OI.bv a9,OI.qv a9,OI.qf a9] 2 AV.undef) = AV.nilslice)/\
 (Rf (TV.v AV.nilslice)))))))/\
 ((((8:Nat) <= 140737488355328)/\
 ((1:Nat) <= 4611686018427387904))/\
 ((Rf (TV.v (AV.ptr (id) 0)))/\
 (∃ a9:OI,(((State.objs (State.new σ'8 (AObj.cells [(AV.int .i64 (((List.length (PM.I p4)):Nat):Int))] 3 1 true)) (id)) = (AObj.cells [(AV.bool (OI.op a9)),(AV.bool (OI.fr a9)),(OI.bv a9),(OI.qv a9),(OI.qf a9)] 159 5 false))/\
 (((3:Nat) <= 5)/\
 (∃ x'10:Y87,(((I (x'10))/\
 (((LS.μ (ls42 id n I) x'10):Nat) < (LS.μ (ls42 id n I) y)))/\
 (((TV.v (AV.ptr (ML.M (Y87.L y)) 0)) = (TV.v (AV.ptr (ML.M (Y87.L x'10)) 0)))/\
 ((Rf (TV.v (AV.ptr (id) 0)))/\
 ((Rf (TV.v (AV.int .i64 (n))))/\
 (((TV.v (AV.int .i64 (IntKind.wrap .i64 (((Y87.j y:Nat):Int) + 1)))) = (TV.v (AV.int .i64 ((Y87.j x'10:Nat):Int))))/\
 (State.Le ((ls42 id n I).3 x'10) (State.set (State.new σ'8 (AObj.cells [(AV.int .i64 (((List.length (PM.I p4)):Nat):Int))] 3 1 true)) (id) (AObj.cells [(AV.bool (OI.op a9)),(AV.bool (OI.fr a9)),(AV.rslice (State.next σ'8) 0 1),(OI.qv a9),(OI.qf a9)] 159 5 false))))))))))))))))))))))))))))))))))
 ((((((Y87.j y:Nat):Int):Int) < (n)) -> False)/\
 ((Rf (TV.v (AV.ptr (ML.M (Y87.L y)) 0)))/\
 ((Rf (TV.v (AV.ptr (id) 0)))/\
 (State.Le (y.1) (y.1))))))):=by kernel_rfl
theorem vc42r (B:Nat) (w0:World) (G:Nat -> AV) (id:Nat) (n:Int) (I:Y87 -> Prop) (y:Y87):(wpX [] (EV B w0 G) (H42 (EV B w0 G)) (fun _ _ _ _ => False) (annA 42) (N42 true) (bodyOf (fnPart Tryz.prog [] 42 0)) ((ls42 id n I).post y) (frm (F42 id n y) []) y.σ) =
 ((bcase (decide ((((Y87.j y:Nat):Int):Int) < (n)))
 (∃ a0:OI,(((State.objs (y.1) (id)) = (AObj.cells [(AV.bool (OI.op a0)),(AV.bool (OI.fr a0)),(OI.bv a0),(OI.qv a0),(OI.qf a0)] 159 5 false))/\
 (((2:Nat) < 5)/\
 (∃ x1:RS,(((List.getD [AV.bool (OI.op a0),AV.bool (OI.fr a0),OI.bv a0,OI.qv a0,OI.qf a0] 2 AV.undef) = (AV.rslice (RS.id x1) 0 (RS.n x1)))/\
 (∃ c2:MH,(∃ L3:ML,(∃ p4:PM,(∃ b5:Bool,(([(AV.ptr (ML.M (Y87.L y)) 0),(AV.bool false)] = [(AV.ptr (ML.M L3) 0),(AV.bool (b5))])/\
 (((At c2 (y.1))/\
 ((Rep c2 L3 p4)/\
 (((List.length (PM.I p4)):Nat) <= 1000000)))/\
 (∀ c'6:MH,(∀ L'7:ML,(∀ σ'8:State,(((At c'6 σ'8)/\
 (((ML.M L'7:Nat) = (ML.M L3))/\
 ((Rep c'6 L'7 { I:=PM.I p4 ++ [{ op:=Bool.true,fr:=b5,beh:=[],q:=[] }],turn:=PM.turn p4,came:=PM.came p4,gone:=PM.gone p4,work:=PM.work p4,count:=PM.count p4 })/\
 ((∀ q9:MRole,(((q9 ∈ [MRole.m,MRole.ins,MRole.inp (List.length (PM.I p4))]) -> False) -> ((c'6 q9) = (c2 q9))))/\
 (∀ k9:Nat,(∀ id10:Nat,((((ML.ids L3)[k9]?) = (Option.some (id10))) -> (((ML.ids L'7)[k9]?) = (Option.some (id10)))))))))) -> ((Rf (TV.v (AV.ptr (id) 0)))/\
 ((Rf (TV.v (AV.ptr (id) 0)))/\
 ((Rf (TV.v (AV.ptr (id) 0)))/\
 ((Rf (TV.v (AV.ptr (id) 2)))/\
 ((∃ a9:OI,(((State.objs σ'8 (id)) = (AObj.cells [(AV.bool (OI.op a9)),(AV.bool (OI.fr a9)),(OI.bv a9),(OI.qv a9),(OI.qf a9)] 159 5 false))/\
 (((2:Nat) < 5)/\
 (∃ x10:RS,(((List.getD [AV.bool (OI.op a9),AV.bool (OI.fr a9),OI.bv a9,OI.qv a9,OI.qf a9] 2 AV.undef) = (AV.rslice (RS.id x10) 0 (RS.n x10)))/\
 ((TV.v (AV.rslice (RS.id x10) 0 (RS.n x10))) = (TV.v (AV.rslice (RS.id x1) 0 (RS.n x1)))))))))/\
 (∃ a9:OE,(((State.objs σ'8 (RS.id x1)) = (AObj.cells (OE.cs a9) 3 1 (OE.g a9)))/\
 ((((0:Nat) = 0)/\
 (((((((RS.n x1) + 1) * 8):Nat) <= 140737488355328)/\
 ((((RS.n x1) + 1):Nat) <= 4611686018427387904))/\
 ((((RS.n x1) * 1):Nat) <= (List.length (OE.cs a9)))))/\
 ((Rf (TV.v (AV.ptr (id) 0)))/\
 (∃ a10:OI,(((State.objs (State.new (State.set σ'8 (RS.id x1) AObj.dead) (AObj.cells ((List.take ((RS.n x1) * 1) (OE.cs a9)) ++ [(AV.int .i64 (((List.length (PM.I p4)):Nat):Int))]) 3 1 true)) (id)) = (AObj.cells [(AV.bool (OI.op a10)),(AV.bool (OI.fr a10)),(OI.bv a10),(OI.qv a10),(OI.qf a10)] 159 5 false))/\
 (((3:Nat) <= 5)/\
 (∃ x'11:Y87,(((I (x'11))/\
 (((LS.μ (ls42 id n I) x'11):Nat) < (LS.μ (ls42 id n I) y)))/\
 (((TV.v (AV.ptr (ML.M (Y87.L y)) 0)) = (TV.v (AV.ptr (ML.M (Y87.L x'11)) 0)))/\
 ((Rf (TV.v (AV.ptr (id) 0)))/\
 ((Rf (TV.v (AV.int .i64 (n))))/\
 (((TV.v (AV.int .i64 (IntKind.wrap .i64 (((Y87.j y:Nat):Int) + 1)))) = (TV.v (AV.int .i64 ((Y87.j x'11:Nat):Int))))/\
 (State.Le ((ls42 id n I).3 x'11) (State.set (State.new (State.set σ'8 (RS.id x1) AObj.dead) (AObj.cells ((List.take ((RS.n x1) * 1) (OE.cs a9)) ++ [(AV.int .i64 (((List.length (PM.I p4)):Nat):Int))]) 3 1 true)) (id) (AObj.cells [(AV.bool (OI.op a10)),(AV.bool (OI.fr a10)),(AV.rslice (State.next σ'8) 0 ((RS.n x1) + 1)),(OI.qv a10),(OI.qf a10)] 159 5 false))))))))))))))))))))))))))))))))))))
 ((((((Y87.j y:Nat):Int):Int) < (n)) -> False)/\
 ((Rf (TV.v (AV.ptr (ML.M (Y87.L y)) 0)))/\
 ((Rf (TV.v (AV.ptr (id) 0)))/\
 (State.Le (y.1) (y.1))))))):=by kernel_rfl
def T42 (n:Int) (I0:Nat -> Y87 -> Prop) (P:Nat -> Y87 -> Prop):LHand:=fun _ Q a σ => ∃ (id:Nat) (y:Y87),I0 id y /\ atF a (F42 id n y) [] (y.σ.Le σ) /\ ∀ y':Y87,P id y' -> Q (.exit 1) (frm [(0,.v (.ptr y'.L.M 0)),(8,.v (.ptr id 0))] []) y'.σ
def N42t:FnHint:=hAt [(8,4,hMR),(11,3,hM),(11,8,hM),(12,3,hM),(12,8,hM),(17,3,hI)]
theorem vc42 (B:Nat) (w0:World) (G:Nat -> AV) (σ:State) (M:Nat) (i n:Int) (I0 P:Nat -> Y87 -> Prop) (Q:AV -> State -> Prop):(bodyX [] (EV B w0 G) (H42 (EV B w0 G)) (T42 n I0 P) annA N42t 42 [.ptr M 0,.int .i64 i,.int .i64 n] σ Q) =
 ((∃ c0:MH,(∃ L1:ML,(∃ p2:PM,(∃ i3:Int,(([(AV.ptr (M) 0),(AV.int .i64 (i))] = [(AV.ptr (ML.M L1) 0),(AV.int .i64 (i3))])/\
 (((At c0 σ)/\
 (Rep c0 L1 p2))/\
 ((((PM.opened p2 i3) = Option.none) -> (Q (AV.tuple [AV.nilslice,(AV.int .i64 90)]) σ))/\
 (∀ k4:Nat,(∀ id5:Nat,(((PM.opened p2 i3) = (Option.some (k4))) -> ((((ML.ids L1)[k4]?) = (Option.some (id5))) -> (bcase (decide (((n):Int) < 0))
 (Q (AV.tuple [AV.nilslice,(AV.int .i64 1)]) σ)
 (bcase (decide (((n):Int) > 64))
 (Q (AV.tuple [AV.nilslice,(AV.int .i64 1)]) σ)
 (∃ a6:OM,(((State.objs σ (M)) = (AObj.cells [(OM.iv a6),(OM.tv a6),(OM.tf a6),(AV.int .i64 ((OM.came a6:Nat):Int)),(AV.int .i64 ((OM.gone a6:Nat):Int)),(AV.int .i64 ((OM.work a6:Nat):Int)),(AV.int .i64 ((OM.count a6:Nat):Int))] 153 7 false))/\
 (((0:Nat) < 7)/\
 (∃ x7:RS,(((List.getD [OM.iv a6,OM.tv a6,OM.tf a6,AV.int .i64 (↑(OM.came a6):Int),AV.int .i64 (↑(OM.gone a6):Int),AV.int .i64 (↑(OM.work a6):Int),AV.int .i64 (↑(OM.count a6):Int)] 0 AV.undef) = (AV.rslice (RS.id x7) 0 (RS.n x7)))/\
 (bcase (decide (((IntKind.wrap .i64 (((RS.n x7:Nat):Int) + (n))):Int) > 4096))
 (Q (AV.tuple [AV.nilslice,(AV.int .i64 2)]) σ)
 (∃ c8:MH,(∃ L9:ML,(∃ p10:PM,(∃ k11:Nat,(∃ id12:Nat,(([(AV.ptr (M) 0),(AV.ptr (id5) 0)] = [(AV.ptr (ML.M L9) 0),(AV.ptr (id12) 0)])/\
 (((At c8 σ)/\
 ((Rep c8 L9 p10)/\
 ((((ML.ids L9)[k11]?) = (Option.some (id12)))/\
 (((1:Nat) <= (PM.count p10))/\
 (((PM.count p10:Nat) <= 1000000)/\
 ((PM.work p10:Nat) <= 1000000))))))/\
 (∀ c'13:MH,(∀ σ'14:State,(((At c'13 σ'14)/\
 ((Rep c'13 L9
 (have __src :=
  PM.setI p10 k11
   (have __src:=PM.at p10 k11;
   { op:=Bool.false,fr:=PI.fr __src,beh:=PI.beh __src,q:=PI.q __src });
 { I:=PM.I __src,turn:=PM.turn __src,came:=PM.came __src,gone:=PM.gone __src,work:=PM.work p10 + 1,count:=PM.count p10 - 1 }))/\
 (∀ q15:MRole,(((q15 ∈ [MRole.m,MRole.inp k11]) -> False) -> ((c'13 q15) = (c8 q15)))))) -> (∃ a15:OM,(((State.objs σ'14 (M)) = (AObj.cells [(OM.iv a15),(OM.tv a15),(OM.tf a15),(AV.int .i64 ((OM.came a15:Nat):Int)),(AV.int .i64 ((OM.gone a15:Nat):Int)),(AV.int .i64 ((OM.work a15:Nat):Int)),(AV.int .i64 ((OM.count a15:Nat):Int))] 153 7 false))/\
 (((5:Nat) < 7)/\
 (∃ a16:OM,(((State.objs σ'14 (M)) = (AObj.cells [(OM.iv a16),(OM.tv a16),(OM.tf a16),(AV.int .i64 ((OM.came a16:Nat):Int)),(AV.int .i64 ((OM.gone a16:Nat):Int)),(AV.int .i64 ((OM.work a16:Nat):Int)),(AV.int .i64 ((OM.count a16:Nat):Int))] 153 7 false))/\
 (((6:Nat) <= 7)/\
 (∃ a17:OM,(((State.objs (State.set σ'14 (M) (AObj.cells [(OM.iv a16),(OM.tv a16),(OM.tf a16),(AV.int .i64 ((OM.came a16:Nat):Int)),(AV.int .i64 ((OM.gone a16:Nat):Int)),(AV.int .i64 (IntKind.wrap .i64 (((OM.work a15:Nat):Int) + (n)))),(AV.int .i64 ((OM.count a16:Nat):Int))] 153 7 false)) (M)) = (AObj.cells [(OM.iv a17),(OM.tv a17),(OM.tf a17),(AV.int .i64 ((OM.came a17:Nat):Int)),(AV.int .i64 ((OM.gone a17:Nat):Int)),(AV.int .i64 ((OM.work a17:Nat):Int)),(AV.int .i64 ((OM.count a17:Nat):Int))] 153 7 false))/\
 (((6:Nat) < 7)/\
 (∃ a18:OM,(((State.objs (State.set σ'14 (M) (AObj.cells [(OM.iv a16),(OM.tv a16),(OM.tf a16),(AV.int .i64 ((OM.came a16:Nat):Int)),(AV.int .i64 ((OM.gone a16:Nat):Int)),(AV.int .i64 (IntKind.wrap .i64 (((OM.work a15:Nat):Int) + (n)))),(AV.int .i64 ((OM.count a16:Nat):Int))] 153 7 false)) (M)) = (AObj.cells [(OM.iv a18),(OM.tv a18),(OM.tf a18),(AV.int .i64 ((OM.came a18:Nat):Int)),(AV.int .i64 ((OM.gone a18:Nat):Int)),(AV.int .i64 ((OM.work a18:Nat):Int)),(AV.int .i64 ((OM.count a18:Nat):Int))] 153 7 false))/\
 (((7:Nat) <= 7)/\
 (∃ id19:Nat,(∃ y20:Y87,((I0 (id19) (y20))/\
 ((((TV.v (AV.ptr (M) 0)) = (TV.v (AV.ptr (ML.M (Y87.L y20)) 0)))/\
 (((TV.v (AV.ptr (id5) 0)) = (TV.v (AV.ptr (id19) 0)))/\
 ((Rf (TV.v (AV.int .i64 (n))))/\
 (((TV.v (AV.int .i64 0)) = (TV.v (AV.int .i64 ((Y87.j y20:Nat):Int))))/\
 (State.Le (y20.1) (State.set (State.set σ'14 (M) (AObj.cells [(OM.iv a16),(OM.tv a16),(OM.tf a16),(AV.int .i64 ((OM.came a16:Nat):Int)),(AV.int .i64 ((OM.gone a16:Nat):Int)),(AV.int .i64 (IntKind.wrap .i64 (((OM.work a15:Nat):Int) + (n)))),(AV.int .i64 ((OM.count a16:Nat):Int))] 153 7 false)) (M) (AObj.cells [(OM.iv a18),(OM.tv a18),(OM.tf a18),(AV.int .i64 ((OM.came a18:Nat):Int)),(AV.int .i64 ((OM.gone a18:Nat):Int)),(AV.int .i64 ((OM.work a18:Nat):Int)),(AV.int .i64 (IntKind.wrap .i64 (((OM.count a17:Nat):Int) + (n))))] 153 7 false)))))))/\
 (∀ y'21:Y87,((P (id19) (y'21)) -> (∃ a22:OI,(((State.objs (y'21.1) (id19)) = (AObj.cells [(AV.bool (OI.op a22)),(AV.bool (OI.fr a22)),(OI.bv a22),(OI.qv a22),(OI.qf a22)] 159 5 false))/\
 (((2:Nat) < 5)/\
 (∃ c23:MH,(∃ v24:AV,(∃ l25:List Nat,(([(List.getD [AV.bool (OI.op a22),AV.bool (OI.fr a22),OI.bv a22,OI.qv a22,OI.qf a22] 2 AV.undef)] = [(v24)])/\
 (((At c23 (y'21.1))/\
 (((((v24) = AV.nilslice)/\
 ((l25) = [])) \/ (∃ id26:Nat,(∃ off27:Nat,(∃ n28:Nat,(∃ cs29:List AV,(∃ g30:Bool,(((v24) = (AV.rslice (id26) (off27) (n28)))/\
 (((State.objs (y'21.1) (id26)) = (AObj.cells (cs29) 3 1 (g30)))/\
 (((((off27) + (n28)):Nat) <= (List.length (cs29)))/\
 ((List.take (n28) (List.drop (off27) (cs29))) = (intsV l25)))))))))))/\
 (((List.length (l25)):Nat) <= 1000000)))/\
 (∀ σ'26:State,((At c23 σ'26) -> (∃ c27:MH,(∃ L28:ML,(∃ p29:PM,(∃ k30:Nat,(∃ id31:Nat,(([(AV.ptr (ML.M (Y87.L y'21)) 0),(AV.ptr (id19) 0)] = [(AV.ptr (ML.M L28) 0),(AV.ptr (id31) 0)])/\
 (((At c27 σ'26)/\
 ((Rep c27 L28 p29)/\
 ((((ML.ids L28)[k30]?) = (Option.some (id31)))/\
 ((PM.Ok p29)/\
 (((PM.T p29:Nat) <= 50000)/\
 (((List.length (PM.turn p29)):Nat) <= 40000))))))/\
 (∀ c'32:MH,(∀ L'33:ML,(∀ p'34:PM,(∀ σ'35:State,(((At c'32 σ'35)/\
 ((((ML.M L'33:Nat) = (ML.M L28))/\
 ((ML.ids L'33) = (ML.ids L28)))/\
 ((Rep c'32 L'33 p'34)/\
 ((∃ p136:PM,(∃ now37:List Nat,((FReach p29 [k30] [] p136 [] now37)/\
 ((p'34) = (pushAll p136 (sortN now37))))))/\
 (Frame' c27 c'32))))) -> (Q (AV.tuple [(AV.slice 1 (intsV l25) Cap.any),(AV.int .i64 0)]) σ'35))))))))))))))))))))))))))))))))))))))))))))))))))))))))))))))))))))))):=by kernel_rfl

/- Inputs -/
end Go.V
/- The methods of a merger: Turn, New, Work, Done. -/
set_option linter.unusedSimpArgs false
set_option linter.unusedSectionVars false
namespace Go.V
open Go Go.Proofs

theorem ACalls.post_wk {E:Env} {f:Nat} {args:List AV} {σ:State} {Q:AV -> State -> Prop} (h:ACalls E f args σ (fun v σ' => ∃ v' σ'',Wk v v' /\ σ''.Le σ' /\ Q v' σ'')):ACalls E f args σ Q :=
 ⟨fun g w vs hG hS hv => (h.run g w vs hG hS hv).mono fun e w' k => by
  cases e with
  | returned v => obtain ⟨g',σ',a,h1,h2,h3,v',σ'',hw,hl,hq⟩:=k; exact ⟨g',σ'',v',h1,h2.forget hl,hw _ _ h3,hq⟩
  | outgrown => exact k
  | panicked c => exact k⟩
theorem At.skip {c:MH} {σ:State} (h:At c σ) (o:AObj):At c (σ.new o) where
 at_ r id x hr:=by
  have:=h.at_ r id x hr
  refine ⟨Nat.lt_succ_of_lt this.1,?_⟩
  show (if id = σ.next then o else σ.objs id) = x
  rw [if_neg (by omega)]; exact this.2
 inj:=h.inj
theorem le_new {σ:State} {o:AObj}:(σ.new .dead).Le (σ.new o):=⟨rfl,fun id => by
 show (if id = σ.next then AObj.dead else σ.objs id) = (if id = σ.next then o else σ.objs id) \/ (if id = σ.next then AObj.dead else σ.objs id) = .dead
 split
 ·exact .inr rfl
 ·exact .inl rfl⟩

def C41r:Contract:=fun args σ K => ∃ (c:MH) (n:Int),args = [.int .i64 n] /\ At c σ /\
 ((n < 0 \/ 64 < n -> K (.tuple [.nilptr,.int .i64 1]) σ) /\ (0 <= n /\ n <= 64 -> ∀ (c':MH) (σ':State) (M:Nat),(At c' σ' /\ MRep c' M (RM.new n.toNat) /\ Frame' c c') -> K (.tuple [.ptr M 0,.int .i64 0]) σ'))

def PM.newj (j k:Nat):PM:=⟨List.replicate j ⟨true,true,[],[]⟩,[],0,0,k,k⟩
def onlyX (c:MH):MH:=fun r => match r.own with
 | true => none
 | false => c r
theorem At.onlyX {c:MH} {σ:State} (h:At c σ):At (onlyX c) σ:=h.sub fun r x hx => by
 unfold Go.V.onlyX at hx
 split at hx
 ·cases hx
 ·exact hx
theorem newj_at {j k i:Nat} (h:i < j):(PM.newj j k).at i = ⟨true,true,[],[]⟩:=by
 unfold PM.at PM.newj
 simp [List.getD,List.getElem?_replicate,h]
theorem rnew_at {k i:Nat} (h:i < k):(RM.new k).at i = ⟨[],true,true,-1⟩:=by
 unfold RM.at RM.new
 simp [List.getD,List.getElem?_replicate,h]
theorem new_abs (k:Nat):Abs (PM.newj k k) (RM.new k):=by
 have hl:(PM.newj k k).I.length = k:=by simp [PM.newj]
 have hl2:(RM.new k).I.length = k:=by simp [RM.new]
 have key:∀ (P:PI -> RI -> Prop) (i:Nat),P ⟨true,true,[],[]⟩ ⟨[],true,true,-1⟩ -> P PI.no RI.no -> P ((PM.newj k k).at i) ((RM.new k).at i):=fun P i h1 h2 => by
  by_cases h:i < k
  ·rw [newj_at h,rnew_at h]; exact h1
  ·rw [at_ge (by omega)]
   have:(PM.newj k k).at i = PI.no:=by unfold PM.at; rw [List.getD,List.getElem?_eq_none (by omega)]; rfl
   rw [this]; exact h2
 refine ⟨⟨hl.trans hl2.symm,fun i => key (fun a b => a.op = b.op) i rfl rfl,fun i => key (fun a b => a.fr = b.fr) i rfl rfl,fun i => key (fun a b => a.q = b.q) i rfl rfl,fun i hi => ?_,rfl,rfl,rfl⟩,?_,?_⟩
 ·rw [newj_at (by omega)]
  refine (List.filter_eq_nil_iff.2 fun j hj => ?_).symm
  have:=List.mem_range.1 hj
  rw [rnew_at (by omega)]
  simp
 ·show 0 + (RM.new k).qsum = 0
  simp [RM.qsum,RM.sumI,RM.new]
 ·show k = (RM.new k).opens
  simp [RM.opens,RM.sumI,RM.new]
theorem new_wf {k:Nat} (hk:k <= 64):(RM.new k).Wf:=by
 have hl:(RM.new k).I.length = k:=by simp [RM.new]
 refine ⟨⟨by omega,by show 0 <= _; omega,fun i hi => by rw [rnew_at (by omega)]; dsimp only; omega,fun i hi _ => by rw [rnew_at (by omega)],fun i hi _ => by rw [rnew_at (by omega)]; exact .inl rfl,fun i hi hb => by rw [rnew_at (by omega)] at hb; exact absurd rfl hb,List.nodup_nil,fun j => ?_,fun j t ht => ?_,?_,?_⟩,fun i hi h => ?_⟩
 ·show j ∈ ([]:List Nat) ↔ _
  constructor
  ·intro h; cases h
  ·rintro ⟨h1,h2,h3,_⟩
   rw [rnew_at (by omega)] at h3; exact absurd rfl h3
 ·by_cases h:j < k
  ·rw [rnew_at h] at ht; cases ht
  ·rw [at_ge (by omega)] at ht; cases ht
 ·simp [RM.qsum,RM.sumI,RM.new]
 ·rw [hl]
  simp [RM.qsum,RM.opens,RM.sumI,RM.new]; omega
 ·rw [rnew_at (by omega)] at h; cases h
structure I41 (c:MH) (k:Nat) (y:Y87):Prop where
 at_:At y.c y.σ
 rep:Rep y.c y.L (PM.newj y.j k)
 j:y.j <= k
 xs:Frame' c y.c

section
variable {B:Nat} {w0:World} {G:Nat -> AV}

theorem c86_ok:ContractOk (EV B w0 G) 86 C86r:=by
 rintro args σ Q ⟨c,v,l,rfl,⟨hA,hv,hl⟩,hQ⟩
 refine ACalls.post_wk ?_
 rcases hv with ⟨rfl,rfl⟩ | ⟨id,off,n,cs,g,rfl,hob,hle,hcs⟩
 ·refine bodyC_ok (EV_mixed B w0 G) (hnd_ok (EV_mixed B w0 G) contracts_nil) (fun l hl _ Q a σ k => k.elim) ((vc86n B w0 G σ _).mpr ?_)
  exact ⟨_,σ,Wk.nil 1,.refl σ,hQ σ hA⟩
 ·have hch:chunk none (List.take (n * 1) (List.drop (off * 1) cs)) n = intsV l:=by
   rw [Nat.mul_one,Nat.mul_one,chunk_one _ _ (by rw [List.length_take,List.length_drop]; omega),List.take_take,Nat.min_self,hcs]
  have hn:l.length = n:=by
   have:=congrArg List.length hcs
   rw [List.length_take,List.length_drop,intsV_len] at this
   omega
  refine bodyC_ok (EV_mixed B w0 G) (hnd_ok (EV_mixed B w0 G) contracts_nil) (fun l hl _ Q a σ k => k.elim) ((vc86r B w0 G σ id off n _).mpr ?_)
  refine ⟨⟨cs,g⟩,hob,by show (off + n) * 1 <= cs.length; omega,bcase_of (fun h => ?_) (fun h => ?_)⟩
  ·dsimp only at h
   rw [hch] at h
   rw [List.isEmpty_iff.1 h] at hQ
   exact ⟨_,σ,Wk.slice 1 [] _,.refl σ,hQ σ hA⟩
  ·dsimp only
   rw [hch,intsV_len,hn]
   exact ⟨⟨by omega,by omega⟩,_,_,Wk.slice 1 _ _,le_new,hQ _ (hA.skip _)⟩

theorem H41_ok:HOk1 (EV B w0 G) (H41 (EV B w0 G)):=hnd_ok (EV_mixed B w0 G) (contracts_cons c83_ok contracts_nil)
theorem c41_ok:ContractOk (EV B w0 G) 41 C41r:=by
 rintro args σ Q ⟨c,n,rfl,hA,hQ1,hQ2⟩
 by_cases hn:n < 0 \/ 64 < n
 ·refine bodyX_ok (EV_mixed B w0 G) H41_ok (L:=T41 n (fun _ => False) (fun _ => False)) (fun l hl _ Q a σ k => by obtain ⟨_,h,_⟩:=k; exact h.elim) ((vc41 B w0 G n _ _ σ Q).mpr ?_)
  refine bcase_of (fun _ => hQ1 hn) (fun h => bcase_of (fun _ => hQ1 hn) (fun h2 => ?_))
  have h:=of_decide_eq_false h
  have h2:=of_decide_eq_false h2
  omega
 obtain ⟨k,rfl⟩:∃ k:Nat,n = (k:Int):=⟨n.toNat,by omega⟩
 have hk:k <= 64:=by omega
 have hQ2:=hQ2 ⟨by omega,by omega⟩
 rw [Int.toNat_natCast] at hQ2
 let M0:AObj:=.cells [.nilslice,.nilslice,.int .i64 0,.int .i64 0,.int .i64 0,.int .i64 (k:Int),.int .i64 (k:Int)] 153 7 false
 let L0:ML:=⟨σ.next,.nilslice,.nilslice,0,[]⟩
 have hA0:=hA.onlyX.new .m M0
 have hr0:Rep (hup (onlyX c) .m (some (σ.next,M0))) L0 (PM.newj 0 k):=by
  refine ⟨(hup_self (c:=onlyX c) (r:=.m) (x:=some (σ.next,M0))).trans rfl,.nil,⟨[],.nil,rfl,rfl,Nat.zero_le _⟩,rfl,fun k hk => absurd hk (Nat.not_lt_zero k)⟩
 have h0:I41 c k ⟨σ.new M0,hup (onlyX c) .m (some (σ.next,M0)),L0,PM.newj 0 k,0⟩ :=
  ⟨hA0,hr0,Nat.zero_le _,fun i => hup_ne (c:=onlyX c) (r:=.m) (s:=.x i) (x:=some (σ.next,M0)) (by simp)⟩
 refine bodyX_ok (EV_mixed B w0 G) H41_ok (L:=T41 k (fun y => I41 c k y) (fun y => I41 c k y /\ y.j = k)) (fun l hl _ Q a σ kk => ?_) ((vc41 B w0 G k _ _ σ Q).mpr ?_)
 ·change l ∈ fnParts Tryz.prog [] 41 at hl
  rw [fnParts_41] at hl
  simp only [List.mem_cons,List.not_mem_nil,or_false] at hl
  subst hl
  obtain ⟨y,hI,ha,hq⟩:=kk
  refine awp_loopS (ls41 k (fun y => I41 c k y)) (x0:=y) (fun y hI => ?_) (fun y hI e a σ hne kk => ?_) hI ha
  ·have hI:I41 c k y:=hI
   show AWp _ _ _ _ _ (frm (F41 k y) []) y.σ
   refine wpX_ok H41_ok (EV_mixed B w0 G) (L:=fun _ _ _ _ => False) _ _ _ _ (fun p hp hc Q a σ k => k.elim) (by kernel_rfl) ((vc41l B w0 G k _ y).mpr ?_)
   have hj:=hI.j
   have w1:IntKind.wrap .i64 ((y.j:Int) + 1) = ((y.j + 1:Nat):Int):=by rw [wr_small (by omega) (by omega)]; omega
   refine bcase_of (fun h => ?_) (fun h => ⟨of_decide_eq_false h,rfl,.refl _⟩)
   have h:=of_decide_eq_true h
   refine ⟨y.c,y.L,PM.newj y.j k,true,rfl,⟨hI.at_,hI.rep,by simp [PM.newj]; omega⟩,fun c' L' σ' ⟨h1,h2,h3,h4,h5⟩ => ?_⟩
   refine ⟨⟨σ',c',L',PM.newj (y.j + 1) k,y.j + 1⟩,⟨⟨h1,?_,by show y.j + 1 <= k; omega,hI.xs.trans ((show Same y.c c' [.m,.ins,.inp (PM.newj y.j k).I.length] from h4).frame ?_)⟩,?_⟩,by rw [<-h2],rfl,by rw [w1],.refl _⟩
   ·have e:(PM.newj (y.j + 1) k) = { I:=(PM.newj y.j k).I ++ [⟨true,true,[],[]⟩],turn:=[],came:=0,gone:=0,work:=k,count:=k }:=by
     unfold PM.newj; rw [List.replicate_succ']
    show Rep c' L' (PM.newj (y.j + 1) k)
    rw [e]; exact h3
   ·intro q hq; simp at hq; rcases hq with rfl | rfl | rfl <;> rfl
   ·show (k:Int).toNat - (y.j + 1) < (k:Int).toNat - y.j
    omega
  ·cases e with
   | exit id =>
    match id,kk with
    | 0,kk => exact ⟨_,_,(atF_ok kk.2).1,(atF_ok kk.2).2,hq y ⟨hI,by have:=(show I41 c k y from hI).j; have:=kk.1; omega⟩⟩
   | normal => exact absurd rfl hne
   | _ => exact kk.elim
 ·refine bcase_of (fun h => ?_) (fun h => bcase_of (fun h2 => ?_) (fun h2 => ?_))
  ·have h:=of_decide_eq_true h; omega
  ·have h2:=of_decide_eq_true h2; omega
  refine ⟨⟨σ.new M0,hup (onlyX c) .m (some (σ.next,M0)),L0,PM.newj 0 k,0⟩,h0,⟨rfl,rfl,rfl,.refl _⟩,fun y ⟨h1,h2⟩ => ?_⟩
  have h3:=h1.rep
  rw [h2] at h3
  exact hQ2 y.c y.σ y.L.M ⟨h1.at_,⟨y.L,_,rfl,h3,new_abs k,new_wf hk⟩,h1.xs⟩
end
end Go.V
