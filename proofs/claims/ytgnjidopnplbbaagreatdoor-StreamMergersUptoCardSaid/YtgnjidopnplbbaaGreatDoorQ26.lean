import Derived.Test.YtgnjidopnplbbaaGreatDoorQ25
/- Conditions: what a law does with a merger. -/
set_option maxRecDepth 1000000
set_option linter.unusedVariables false
namespace Go.V
open Go Go.Proofs

structure Ev where
 k:Int
 i:Int
 n:Int
 t:T
def Ev.v (e:Ev):AV:=.agg [.int .i64 e.k,.int .i64 e.i,.int .i64 e.n,.int .i64 e.t.k,.int .i64 e.t.n,.str e.t.s,.slice 4 (tcellL e.t.l) .any]
def itemC (x:Nat × T):AV:=.agg [.int .i64 (x.1:Int),.int .i64 x.2.k,.int .i64 x.2.n,.str x.2.s,.slice 4 (tcellL x.2.l) .any]
def RM.do (m:RM) (e:Ev):RM × List (Nat × T) × Int :=
 if e.k = 1 then ((m.put e.i e.t).1,[],(m.put e.i e.t).2)
 else if e.k = 2 then ((m.close e.i).1,[],(m.close e.i).2)
 else if e.k = 3 then ((m.split e.i e.n).1,[],(m.split e.i e.n).2.2)
 else (m.next.1,m.next.2.toList,0)
def C44s:Contract:=fun args σ K => ∃ (c:MH) (M:Nat) (m:RM),args = [.ptr M 0] /\ (At c σ /\ MRep c M m) /\
 ((m.next.2 = none -> ∀ (c':MH) (σ':State),(At c' σ' /\ MRep c' M m /\ Frame' c c') -> K (.tuple [.agg [.int .i64 0,.int .i64 0,.int .i64 0,.str ⟨⟨[]⟩⟩,.nilslice],.bool false]) σ') /\
  ∀ (x:Nat × T),m.next.2 = some x -> ∀ (c':MH) (σ':State),(At c' σ' /\ MRep c' M m.next.1 /\ Frame' c c') -> K (.tuple [itemC x,.bool true]) σ')
def C45r:Contract:=fun args σ K => ∃ (c:MH) (M:Nat) (m:RM) (e:Ev),args = [.ptr M 0,e.v] /\ (At c σ /\ MRep c M m /\ XT c) /\
 ∀ (c':MH) (σ':State),(At c' σ' /\ MRep c' M (m.do e).1 /\ Frame' c c') -> K (.tuple [.slice 5 ((m.do e).2.1.map itemC) .any,.int .i64 (m.do e).2.2]) σ'
def H45 (E:Env):Hand:=hnd E annA noHints [(43,C43r),(56,C56r),(42,C42r),(44,C44s)]
theorem vc45 (B:Nat) (w0:World) (G:Nat -> AV) (σ:State) (M:Nat) (e:Ev) (Q:AV -> State -> Prop):(bodyC (EV B w0 G) (H45 (EV B w0 G)) (fun _ _ _ _ => False) annA noHint 45 [.ptr M 0,.agg [.int .i64 e.k,.int .i64 e.i,.int .i64 e.n,.int .i64 e.t.k,.int .i64 e.t.n,.str e.t.s,.slice 4 (tcellL e.t.l) .any]] σ Q) =
 ((bcase (((Ev.k e):Int) == 1)
(∃ c0:MH,(∃ M1:Nat,(∃ m2:RM,(∃ i3:Int,(∃ t4:T,(([(AV.ptr (M) 0),(AV.int .i64 (Ev.i e)),(AV.agg [(AV.int .i64 (T.k (Ev.t e))),(AV.int .i64 (T.n (Ev.t e))),(AV.str (T.s (Ev.t e))),(AV.slice 4 (tcellL (T.l (Ev.t e))) Cap.any)])] = [(AV.ptr (M1) 0),(AV.int .i64 (i3)),(AV.agg [(AV.int .i64 (T.k t4)),(AV.int .i64 (T.n t4)),(AV.str (T.s t4)),(AV.slice 4 (tcellL (T.l t4)) Cap.any)])])/\
(((At c0 σ)/\
((MRep c0 M1 m2)/\
(XT c0)))/\
(∀ c'5:MH,(∀ σ'6:State,(((At c'5 σ'6)/\
((MRep c'5 M1 (Prod.fst (RM.put m2 i3 t4)))/\
(Frame' c0 c'5))) -> (Q (AV.tuple [AV.nilslice,(AV.int .i64 (Prod.snd (RM.put m2 i3 t4)))]) σ'6)))))))))))
(bcase (((Ev.k e):Int) == 2)
(∃ c0:MH,(∃ M1:Nat,(∃ m2:RM,(∃ i3:Int,(([(AV.ptr (M) 0),(AV.int .i64 (Ev.i e))] = [(AV.ptr (M1) 0),(AV.int .i64 (i3))])/\
(((At c0 σ)/\
(MRep c0 M1 m2))/\
(∀ c'4:MH,(∀ σ'5:State,(((At c'4 σ'5)/\
((MRep c'4 M1 (Prod.fst (RM.close m2 i3)))/\
(Frame' c0 c'4))) -> (Q (AV.tuple [AV.nilslice,(AV.int .i64 (Prod.snd (RM.close m2 i3)))]) σ'5))))))))))
(bcase (((Ev.k e):Int) == 3)
(∃ c0:MH,(∃ M1:Nat,(∃ m2:RM,(∃ i3:Int,(∃ n4:Int,(([(AV.ptr (M) 0),(AV.int .i64 (Ev.i e)),(AV.int .i64 (Ev.n e))] = [(AV.ptr (M1) 0),(AV.int .i64 (i3)),(AV.int .i64 (n4))])/\
(((At c0 σ)/\
(MRep c0 M1 m2))/\
(∀ c'5:MH,(∀ σ'6:State,(((At c'5 σ'6)/\
((MRep c'5 M1 (Prod.fst (RM.split m2 i3 n4)))/\
(Frame' c0 c'5))) -> (Q (AV.tuple [AV.nilslice,(AV.int .i64 (Prod.snd (Prod.snd (RM.split m2 i3 n4))))]) σ'6)))))))))))
(∃ c0:MH,(∃ M1:Nat,(∃ m2:RM,(([(AV.ptr (M) 0)] = [(AV.ptr (M1) 0)])/\
(((At c0 σ)/\
(MRep c0 M1 m2))/\
((((Prod.snd (RM.next m2)) = Option.none) -> (∀ c'3:MH,(∀ σ'4:State,(((At c'3 σ'4)/\
((MRep c'3 M1 m2)/\
(Frame' c0 c'3))) -> (Q (AV.tuple [AV.nilslice,(AV.int .i64 0)]) σ'4)))))/\
(∀ x3:Nat × T,(((Prod.snd (RM.next m2)) = (Option.some (x3))) -> (∀ c'4:MH,(∀ σ'5:State,(((At c'4 σ'5)/\
((MRep c'4 M1 (Prod.fst (RM.next m2)))/\
(Frame' c0 c'4))) -> (Q (AV.tuple [(AV.slice 5 [(AV.agg [(AV.int .i64 ((Prod.fst x3:Nat):Int)),(AV.int .i64 (T.k (Prod.snd x3))),(AV.int .i64 (T.n (Prod.snd x3))),(AV.str (T.s (Prod.snd x3))),(AV.slice 4 (tcellL (T.l (Prod.snd x3))) Cap.any)])] Cap.full),(AV.int .i64 0)]) σ'5)))))))))))))))):=by kernel_rfl
end Go.V
/- Conditions: the law StreamFair. -/
namespace Go.V
open Go Go.Proofs

def evL (l:List Ev):List AV:=l.map Ev.v
def evc (e:Ev):List AV:=[.int .i64 e.k,.int .i64 e.i,.int .i64 e.n,.int .i64 e.t.k,.int .i64 e.t.n,.str e.t.s,.slice 4 (tcellL e.t.l) .any]
def hEv:Hint:=Hint.as (fun e:Ev => .vptr (evc e))
def hNat:Hint:=Hint.as (fun n:Nat => .vptr [.int .i64 (n:Int)])
structure YL where
 σ:State
 c:MH
 M:Nat
 m:RM
 i:Nat
def H11 (E:Env):Hand:=hnd E annA noHints [(16,C16),(41,C41r),(45,C45r),(46,C46r),(44,C44s)]
def FL94 (N:Int) (l:List Ev):List (Nat × List AV):=[(1,[.int .i64 N,.slice 7 (evL l) .any])]
def ls11a (N:Int) (l:List Ev) (I:YL -> Prop):LS YL where
 F y:=[(1,.l 1 0),(3,.v (.ptr y.M 0)),(5,.v (.int .i64 (y.i:Int)))]
 FL _:=FL94 N l
 S y:=y.σ
 I:=I
 μ y:=l.length - y.i
 Ex y e a σ:=match e with
  | .exit 0 => atF a [(3,.v (.ptr y.M 0))] [] (y.σ.Le σ)
  | _ => False
def N11a:FnHint:=hAt [(11,3,hEv),(11,11,hEv),(12,4,hEv)]
theorem fnParts_11:fnParts Tryz.prog [] 11 = [.loop (bodyOf (fnPart Tryz.prog [] 11 0)),.loop (bodyOf (fnPart Tryz.prog [] 11 1))]:=by kernel_rfl
theorem vc11a (B:Nat) (w0:World) (G:Nat -> AV) (N:Int) (l:List Ev) (I:YL -> Prop) (y:YL):(wpX [] (EV B w0 G) (H11 (EV B w0 G)) (fun _ _ _ _ => False) (annA 11) N11a (bodyOf (fnPart Tryz.prog [] 11 0)) ((ls11a N l I).post y) (frm [(1,.l 1 0),(3,.v (.ptr y.M 0)),(5,.v (.int .i64 (y.i:Int)))] [(1,[.int .i64 N,.slice 7 (evL l) .any])]) y.σ) =
 ((bcase (decide ((((YL.i y:Nat):Int):Int) < (((List.length (evL l)):Nat):Int)))
(bcase (decide ((((YL.i y:Nat):Int):Int) < 150))
((((0:Int) <= ((YL.i y:Nat):Int))/\
((((YL.i y:Nat):Int):Int) < (((List.length (evL l)):Nat):Int)))/\
(∃ x0:Ev,(((AV.vptr (AV.cells (List.getD (evL l) (Int.toNat (↑(YL.i y):Int)) AV.undef))) = (AV.vptr [(AV.int .i64 (Ev.k x0)),(AV.int .i64 (Ev.i x0)),(AV.int .i64 (Ev.n x0)),(AV.int .i64 (T.k (Ev.t x0))),(AV.int .i64 (T.n (Ev.t x0))),(AV.str (T.s (Ev.t x0))),(AV.slice 4 (tcellL (T.l (Ev.t x0))) Cap.any)]))/\
(bcase (decide (((Ev.k x0):Int) ≥ 1))
((((0:Int) <= ((YL.i y:Nat):Int))/\
((((YL.i y:Nat):Int):Int) < (((List.length (evL l)):Nat):Int)))/\
(∃ x1:Ev,(((AV.vptr (AV.cells (List.getD (evL l) (Int.toNat (↑(YL.i y):Int)) AV.undef))) = (AV.vptr [(AV.int .i64 (Ev.k x1)),(AV.int .i64 (Ev.i x1)),(AV.int .i64 (Ev.n x1)),(AV.int .i64 (T.k (Ev.t x1))),(AV.int .i64 (T.n (Ev.t x1))),(AV.str (T.s (Ev.t x1))),(AV.slice 4 (tcellL (T.l (Ev.t x1))) Cap.any)]))/\
(bcase (decide (((Ev.k x1):Int) <= 3))
((((0:Int) <= ((YL.i y:Nat):Int))/\
((((YL.i y:Nat):Int):Int) < (((List.length (evL l)):Nat):Int)))/\
(∃ x2:Ev,(((AV.vptr (AV.cells (List.getD (evL l) (Int.toNat (↑(YL.i y):Int)) AV.undef))) = (AV.vptr [(AV.int .i64 (Ev.k x2)),(AV.int .i64 (Ev.i x2)),(AV.int .i64 (Ev.n x2)),(AV.int .i64 (T.k (Ev.t x2))),(AV.int .i64 (T.n (Ev.t x2))),(AV.str (T.s (Ev.t x2))),(AV.slice 4 (tcellL (T.l (Ev.t x2))) Cap.any)]))/\
(∃ c3:MH,(∃ M4:Nat,(∃ m5:RM,(∃ e6:Ev,(([(AV.ptr (YL.M y) 0),(AV.agg [(AV.int .i64 (Ev.k x2)),(AV.int .i64 (Ev.i x2)),(AV.int .i64 (Ev.n x2)),(AV.int .i64 (T.k (Ev.t x2))),(AV.int .i64 (T.n (Ev.t x2))),(AV.str (T.s (Ev.t x2))),(AV.slice 4 (tcellL (T.l (Ev.t x2))) Cap.any)])] = [(AV.ptr (M4) 0),(AV.agg [(AV.int .i64 (Ev.k e6)),(AV.int .i64 (Ev.i e6)),(AV.int .i64 (Ev.n e6)),(AV.int .i64 (T.k (Ev.t e6))),(AV.int .i64 (T.n (Ev.t e6))),(AV.str (T.s (Ev.t e6))),(AV.slice 4 (tcellL (T.l (Ev.t e6))) Cap.any)])])/\
(((At c3 (y.1))/\
((MRep c3 M4 m5)/\
(XT c3)))/\
(∀ c'7:MH,(∀ σ'8:State,(((At c'7 σ'8)/\
((MRep c'7 M4 (Prod.fst (RM.do m5 e6)))/\
(Frame' c3 c'7))) -> (∃ x'9:YL,(((I (x'9))/\
(((LS.μ (ls11a N l I) x'9):Nat) < (LS.μ (ls11a N l I) y)))/\
((Rf (TV.l 1 0))/\
(((TV.v (AV.ptr (YL.M y) 0)) = (TV.v (AV.ptr (YL.M x'9) 0)))/\
(((TV.v (AV.int .i64 (IntKind.wrap .i64 (((YL.i y:Nat):Int) + 1)))) = (TV.v (AV.int .i64 ((YL.i x'9:Nat):Int))))/\
((Rf [(AV.int .i64 (N)),(AV.slice 7 (evL l) Cap.any)])/\
(State.Le ((ls11a N l I).3 x'9) σ'8)))))))))))))))))))
(∃ x'2:YL,(((I (x'2))/\
(((LS.μ (ls11a N l I) x'2):Nat) < (LS.μ (ls11a N l I) y)))/\
((Rf (TV.l 1 0))/\
(((TV.v (AV.ptr (YL.M y) 0)) = (TV.v (AV.ptr (YL.M x'2) 0)))/\
(((TV.v (AV.int .i64 (IntKind.wrap .i64 (((YL.i y:Nat):Int) + 1)))) = (TV.v (AV.int .i64 ((YL.i x'2:Nat):Int))))/\
((Rf [(AV.int .i64 (N)),(AV.slice 7 (evL l) Cap.any)])/\
(State.Le ((ls11a N l I).3 x'2) (y.1))))))))))))
(∃ x'1:YL,(((I (x'1))/\
(((LS.μ (ls11a N l I) x'1):Nat) < (LS.μ (ls11a N l I) y)))/\
((Rf (TV.l 1 0))/\
(((TV.v (AV.ptr (YL.M y) 0)) = (TV.v (AV.ptr (YL.M x'1) 0)))/\
(((TV.v (AV.int .i64 (IntKind.wrap .i64 (((YL.i y:Nat):Int) + 1)))) = (TV.v (AV.int .i64 ((YL.i x'1:Nat):Int))))/\
((Rf [(AV.int .i64 (N)),(AV.slice 7 (evL l) Cap.any)])/\
(State.Le ((ls11a N l I).3 x'1) (y.1))))))))))))
((Rf (TV.v (AV.ptr (YL.M y) 0)))/\
(State.Le (y.1) (y.1))))
((Rf (TV.v (AV.ptr (YL.M y) 0)))/\
(State.Le (y.1) (y.1))))):=by kernel_rfl
def ls11b (tl:List Nat) (I:YL -> Prop):LS YL where
 F y:=[(3,.v (.ptr y.M 0)),(70,.v (.slice 1 (intsV tl) .any)),(71,.v (.int .i64 ((intsV tl).length:Int))),(72,.v (.int .i64 (y.i:Int)))]
 FL _:=[]
 S y:=y.σ
 I:=I
 μ y:=tl.length - y.i
 Ex y e a σ:=match e with
  | .exit 2 => True
  | _ => False
def N11b:FnHint:=hAt [(15,1,hNat)]
theorem vc11b (B:Nat) (w0:World) (G:Nat -> AV) (tl:List Nat) (I:YL -> Prop) (y:YL):(wpX [] (EV B w0 G) (H11 (EV B w0 G)) (fun _ _ _ _ => False) (annA 11) N11b (bodyOf (fnPart Tryz.prog [] 11 1)) ((ls11b tl I).post y) (frm [(3,.v (.ptr y.M 0)),(70,.v (.slice 1 (intsV tl) .any)),(71,.v (.int .i64 ((intsV tl).length:Int))),(72,.v (.int .i64 (y.i:Int)))] []) y.σ) =
 ((bcase (decide ((((YL.i y:Nat):Int):Int) < (((List.length (intsV tl)):Nat):Int)))
((((0:Int) <= ((YL.i y:Nat):Int))/\
((((YL.i y:Nat):Int):Int) < (((List.length (intsV tl)):Nat):Int)))/\
(∃ x0:Nat,(((AV.vptr (AV.cells (List.getD (intsV tl) (Int.toNat (↑(YL.i y):Int)) AV.undef))) = (AV.vptr [(AV.int .i64 ((x0:Nat):Int))]))/\
(∃ c1:MH,(∃ M2:Nat,(∃ m3:RM,(([(AV.ptr (YL.M y) 0)] = [(AV.ptr (M2) 0)])/\
(((At c1 (y.1))/\
(MRep c1 M2 m3))/\
((((Prod.snd (RM.next m3)) = Option.none) -> (∀ c'4:MH,(∀ σ'5:State,(((At c'4 σ'5)/\
((MRep c'4 M2 m3)/\
(Frame' c1 c'4))) -> False))))/\
(∀ x4:Nat × T,(((Prod.snd (RM.next m3)) = (Option.some (x4))) -> (∀ c'5:MH,(∀ σ'6:State,(((At c'5 σ'6)/\
((MRep c'5 M2 (Prod.fst (RM.next m3)))/\
(Frame' c1 c'5))) -> (bcase ((((Prod.fst x4:Nat):Int):Int) != ((x0:Nat):Int))
False
(bcase (decide ((((YL.i y:Nat):Int):Int) > 5000))
False
(∃ x'7:YL,(((I (x'7))/\
(((LS.μ (ls11b tl I) x'7):Nat) < (LS.μ (ls11b tl I) y)))/\
(((TV.v (AV.ptr (YL.M y) 0)) = (TV.v (AV.ptr (YL.M x'7) 0)))/\
((Rf (TV.v (AV.slice 1 (intsV tl) Cap.any)))/\
((Rf (TV.v (AV.int .i64 (((List.length (intsV tl)):Nat):Int))))/\
(((TV.v (AV.int .i64 (IntKind.wrap .i64 (((YL.i y:Nat):Int) + 1)))) = (TV.v (AV.int .i64 ((YL.i x'7:Nat):Int))))/\
(State.Le ((ls11b tl I).3 x'7) σ'6)))))))))))))))))))))))
True)):=by kernel_rfl
def T11a (N:Int) (l:List Ev) (I P:YL -> Prop):LHand:=fun _ Q a σ => ∃ y:YL,I y /\ atF a ((ls11a N l I).F y) (FL94 N l) (y.σ.Le σ) /\ ∀ y':YL,P y' -> Q (.exit 0) (frm [(3,.v (.ptr y'.M 0))] []) y'.σ
def T11b (I:List Nat -> YL -> Prop):LHand:=fun _ Q a σ => ∃ (tl:List Nat) (y:YL),I tl y /\ atF a ((ls11b tl (fun _ => True)).F y) [] (y.σ.Le σ) /\ ∀ σ',Q (.exit 2) (frm [] []) σ'
theorem headId_11:headId (.loop (bodyOf (fnPart Tryz.prog [] 11 0))) = some 9 /\ headId (.loop (bodyOf (fnPart Tryz.prog [] 11 1))) = some 14:=⟨by kernel_rfl,by kernel_rfl⟩
theorem vc11 (B:Nat) (w0:World) (G:Nat -> AV) (N:Int) (l:List Ev) (I P:YL -> Prop) (I2:List Nat -> YL -> Prop) (Q:AV -> State -> Prop):(bodyX [] (EV B w0 G) (H11 (EV B w0 G)) (handL [(9,T11a N l I P),(14,T11b I2)]) annA noHint 11 [.agg [.int .i64 N,.slice 7 (evL l) .any]] noObj Q) =
 (((([]:List AV) = [])/\
(bcase (decide (((N):Int) < 0))
(Q (AV.bool true) (State.untok (noObj)))
(bcase (decide (((N):Int) > 64))
(Q (AV.bool true) (State.untok (noObj)))
(∃ c0:MH,(∃ n1:Int,(([(AV.int .i64 (N))] = [(AV.int .i64 (n1))])/\
((At c0 (State.untok (noObj)))/\
((((((n1):Int) < 0) \/ ((64:Int) < (n1))) -> (Q (AV.bool false) (State.untok (noObj))))/\
((((0:Int) <= (n1))/\
(((n1):Int) <= 64)) -> (∀ c'2:MH,(∀ σ'3:State,(∀ M4:Nat,(((At c'2 σ'3)/\
((MRep c'2 M4 (RM.new (Int.toNat n1)))/\
(Frame' c0 c'2))) -> (∃ y5:YL,((I (y5))/\
(((Rf (TV.l 1 0))/\
(((TV.v (AV.ptr (M4) 0)) = (TV.v (AV.ptr (YL.M y5) 0)))/\
(((TV.v (AV.int .i64 0)) = (TV.v (AV.int .i64 ((YL.i y5:Nat):Int))))/\
((Rf [(AV.int .i64 (N)),(AV.slice 7 (evL l) Cap.any)])/\
(State.Le (y5.1) σ'3)))))/\
(∀ y'6:YL,((P (y'6)) -> (∃ c7:MH,(∃ M8:Nat,(∃ m9:RM,(([(AV.ptr (YL.M y'6) 0)] = [(AV.ptr (M8) 0)])/\
(((At c7 (y'6.1))/\
(MRep c7 M8 m9))/\
(∀ σ'10:State,((At c7 σ'10) -> (∃ tl11:List Nat,(∃ y12:YL,((I2 (tl11) (y12))/\
((((TV.v (AV.ptr (YL.M y'6) 0)) = (TV.v (AV.ptr (YL.M y12) 0)))/\
(((TV.v (AV.slice 1 (intsV (RM.turn m9)) Cap.any)) = (TV.v (AV.slice 1 (intsV tl11) Cap.any)))/\
(((TV.v (AV.int .i64 (((List.length (intsV (RM.turn m9))):Nat):Int))) = (TV.v (AV.int .i64 (((List.length (intsV tl11)):Nat):Int))))/\
(((TV.v (AV.int .i64 0)) = (TV.v (AV.int .i64 ((YL.i y12:Nat):Int))))/\
(State.Le (y12.1) σ'10)))))/\
(∀ σ'13:State,(Q (AV.bool true) σ'13)))))))))))))))))))))))))))))))):=by kernel_rfl
end Go.V
/- What a law does with a merger; the law StreamFair. -/
set_option linter.unusedSimpArgs false
set_option linter.unusedSectionVars false
namespace Go.V
open Go Go.Proofs

theorem next_cases {m:RM} (hW:m.Wf):(m.turn = [] /\ m.next = (m,none)) \/ ∃ k r t q,m.turn = k :: r /\ (m.at k).q = t :: q /\ m.next = ((m.take1 k r q).fresh.back k q,some (k,t)):=by
 cases ht:m.turn with
 | nil => exact .inl ⟨rfl,by unfold RM.next; rw [ht]⟩
 | cons k r =>
  obtain ⟨_,_,hkq,_⟩:=(hW.w.tm k).1 (by rw [ht]; simp)
  cases hq:(m.at k).q with
  | nil => exact absurd hq hkq
  | cons t q => exact .inr ⟨k,r,t,q,rfl,hq,by unfold RM.next; rw [ht]; dsimp only; rw [hq]⟩
theorem next_turn {m:RM} {k:Nat} {r:List Nat} {t:T} {q:List T} (hW:m.Wf) (ht:m.turn = k :: r) (hq:(m.at k).q = t :: q):∃ r',((m.take1 k r q).fresh.back k q).turn = r ++ r':=by
 obtain ⟨w1,_,_,_,hk,hkf⟩:=take1_wf hW ht hq
 have hat:(m.take1 k r q).at k = { m.at k with q:=q }:=by rw [RM.set_at (m:=m.take1 k r q) (I:=m.I) rfl hk,if_pos rfl]
 obtain ⟨_,_,_,_,_,_,_,_,l,hl⟩:=fresh_wf w1 fun j hj => by subst hj; rw [hat]; exact hkf
 have hl:(m.take1 k r q).fresh.turn = r ++ l:=hl
 show ∃ r',(if q.isEmpty then (m.take1 k r q).fresh.turn else (m.take1 k r q).fresh.turn ++ [k]) = r ++ r'
 rw [hl]
 split
 ·exact ⟨l,rfl⟩
 ·exact ⟨l ++ [k],List.append_assoc _ _ _⟩

section
variable {B:Nat} {w0:World} {G:Nat -> AV}
variable (hG:∀ i,NoId (G i))
include hG
theorem c44s_ok:ContractOk (EV B w0 G) 44 C44s:=by
 rintro args σ Q ⟨c,M,m,rfl,⟨hA,hR⟩,hQ1,hQ2⟩
 refine c44_ok hG _ _ _ ⟨c,M,m,rfl,⟨hA,hR⟩,fun c' σ' ⟨h1,h2,h3⟩ => ?_⟩
 obtain ⟨L,p,_,_,_,hW⟩:=hR
 rcases next_cases hW with ⟨_,e⟩ | ⟨k,r,t,q,_,_,e⟩
 ·rw [e] at h2 ⊢
  exact hQ1 (by rw [e]) c' σ' ⟨h1,h2,h3⟩
 ·have h4:=hQ2 (k,t) (by rw [e]) c' σ' ⟨h1,h2,h3⟩
  rw [e]
  exact h4
theorem H45_ok:HOk1 (EV B w0 G) (H45 (EV B w0 G)):=hnd_ok (EV_mixed B w0 G) (contracts_cons (c43_ok hG) (contracts_cons (c56_ok hG) (contracts_cons (c42_ok hG) (contracts_cons (c44s_ok hG) contracts_nil))))
theorem c45_ok:ContractOk (EV B w0 G) 45 C45r:=by
 rintro args σ Q ⟨c,M,m,e,rfl,⟨hA,hR,hX⟩,hQ⟩
 refine ACalls.post_wk ?_
 refine bodyC_ok (EV_mixed B w0 G) (H45_ok hG) (fun l hl _ Q a σ k => k.elim) ((vc45 B w0 G σ M e _).mpr ?_)
 have wk:∀ (xs:List AV) (m:Cap) (e:Int),Wk (.tuple [.slice 5 xs m,.int .i64 e]) (.tuple [.slice 5 xs .any,.int .i64 e]):=fun xs m e => Wk.tuple (.cons (Wk.slice 5 xs m) (.refl _))
 have wk0:∀ e:Int,Wk (.tuple [.nilslice,.int .i64 e]) (.tuple [.slice 5 [] .any,.int .i64 e]):=fun e => Wk.tuple (.cons (Wk.nil 5) (.refl _))
 refine bcase_of (fun h => ?_) (fun h => bcase_of (fun h2 => ?_) (fun h2 => bcase_of (fun h3 => ?_) (fun h3 => ?_)))
 ·have h:e.k = 1:=by simpa using h
  have hd:m.do e = ((m.put e.i e.t).1,[],(m.put e.i e.t).2):=by unfold RM.do; rw [if_pos h]
  rw [hd] at hQ
  exact ⟨c,M,m,e.i,e.t,rfl,⟨hA,hR,hX⟩,fun c' σ' k => ⟨_,σ',wk0 _,.refl _,hQ c' σ' k⟩⟩
 ·have h:e.k ≠ 1:=by simpa using h
  have h2:e.k = 2:=by simpa using h2
  have hd:m.do e = ((m.close e.i).1,[],(m.close e.i).2):=by unfold RM.do; rw [if_neg h,if_pos h2]
  rw [hd] at hQ
  exact ⟨c,M,m,e.i,rfl,⟨hA,hR⟩,fun c' σ' k => ⟨_,σ',wk0 _,.refl _,hQ c' σ' k⟩⟩
 ·have h:e.k ≠ 1:=by simpa using h
  have h2:e.k ≠ 2:=by simpa using h2
  have h3:e.k = 3:=by simpa using h3
  have hd:m.do e = ((m.split e.i e.n).1,[],(m.split e.i e.n).2.2):=by unfold RM.do; rw [if_neg h,if_neg h2,if_pos h3]
  rw [hd] at hQ
  exact ⟨c,M,m,e.i,e.n,rfl,⟨hA,hR⟩,fun c' σ' k => ⟨_,σ',wk0 _,.refl _,hQ c' σ' k⟩⟩
 ·have h:e.k ≠ 1:=by simpa using h
  have h2:e.k ≠ 2:=by simpa using h2
  have h3:e.k ≠ 3:=by simpa using h3
  have hd:m.do e = (m.next.1,m.next.2.toList,0):=by unfold RM.do; rw [if_neg h,if_neg h2,if_neg h3]
  rw [hd] at hQ
  obtain ⟨L,p,_,_,_,hW⟩:=hR
  refine ⟨c,M,m,rfl,⟨hA,L,p,by assumption,by assumption,by assumption,hW⟩,fun hn c' σ' k => ⟨_,σ',wk0 _,.refl _,?_⟩,fun x hx c' σ' k => ⟨_,σ',wk _ _ _,.refl _,?_⟩⟩
  ·rw [hn] at hQ
   have hm:m.next.1 = m:=by
    rcases next_cases hW with ⟨_,e⟩ | ⟨k,r,t,q,_,_,e⟩
    ·rw [e]
    ·rw [e] at hn; cases hn
   rw [hm] at hQ
   exact hQ c' σ' k
  ·rw [hx] at hQ
   exact hQ c' σ' k
end

structure IL (y:YL):Prop where
 at_:At y.c y.σ
 rep:MRep y.c y.M y.m
 xt:XT y.c
structure ILb (tl:List Nat) (y:YL):Prop where
 l:IL y
 len:tl.length <= 4096
 i:y.i <= tl.length
 turn:∃ r,y.m.turn = tl.drop y.i ++ r
def noneH:MH:=fun _ => none
theorem noneH_at (σ:State):At noneH σ:=⟨fun r id o h => (by cases h),fun r s id o o' h => (by cases h)⟩
theorem noneH_xt:XT noneH:=fun i id o h => by cases h
theorem ev_get {l:List Ev} {i:Nat} (h:i < l.length):List.getD (evL l) i .undef = l[i].v:=by
 unfold evL; rw [List.getD,List.getElem?_map,List.getElem?_eq_getElem h]; rfl
theorem evL_len (l:List Ev):(evL l).length = l.length:=List.length_map _

section
variable {B:Nat} {w0:World}
theorem H11_ok:HOk1 (EV B w0 G1) (H11 (EV B w0 G1)):=hnd_ok (EV_mixed B w0 G1) (contracts_cons c16_ok (contracts_cons c41_ok (contracts_cons (c45_ok G1_noId) (contracts_cons c46_ok (contracts_cons (c44s_ok G1_noId) contracts_nil)))))

theorem fair_ok (N:Int) (l:List Ev):ACalls (EV B w0 G1) 11 [.agg [.int .i64 N,.slice 7 (evL l) .any]] noObj (fun v _ => v = .bool true):=by
 refine bodyX_ok (cuts:=[]) (EV_mixed B w0 G1) H11_ok (fun lp hl _ Q a σ kk => ?_) ((vc11 B w0 G1 N l IL IL ILb _).mpr ⟨rfl,bcase_of (fun _ => rfl) (fun h1 => bcase_of (fun _ => rfl) (fun h2 => ?_))⟩)
 ·change lp ∈ fnParts Tryz.prog [] 11 at hl
  rw [fnParts_11] at hl
  simp only [List.mem_cons,List.not_mem_nil,or_false] at hl
  rcases hl with rfl | rfl
  ·refine handL_ok (P:=fun c Q a σ => AWp (EV B w0 G1) none (fnTmps Tryz.prog 11) c Q a σ) kk (fun _ kk => ?_) fun kk => ?_
   ·obtain ⟨y,hI,ha,hq⟩:=kk
    refine awp_loopS (ls11a N l IL) (x0:=y) (fun y hI => ?_) (fun y hI e a σ hne kk => ?_) hI ha
    ·have hI:IL y:=hI
     show AWp _ _ _ _ _ (frm [(1,.l 1 0),(3,.v (.ptr y.M 0)),(5,.v (.int .i64 (y.i:Int)))] (FL94 N l)) y.σ
     refine wpX_ok H11_ok (EV_mixed B w0 G1) (L:=fun _ _ _ _ => False) _ _ _ _ (fun p hp hc Q a σ k => k.elim) (by kernel_rfl) ((vc11a B w0 G1 N l _ y).mpr ?_)
     refine bcase_of (fun h => bcase_of (fun h150 => ?_) (fun _ => ⟨rfl,.refl _⟩)) (fun _ => ⟨rfl,.refl _⟩)
     have h:=of_decide_eq_true h
     have h150:=of_decide_eq_true h150
     have hi:y.i < l.length:=by rw [evL_len] at h; omega
     have hget:AV.vptr (AV.cells (List.getD (evL l) (Int.toNat (y.i:Int)) .undef)) = .vptr (evc l[y.i]):=by rw [Int.toNat_natCast,ev_get hi]; rfl
     have w1:IntKind.wrap .i64 ((y.i:Int) + 1) = ((y.i + 1:Nat):Int):=by rw [wr_small (by omega) (by omega)]; omega
     have hμ:l.length - (y.i + 1) < l.length - y.i:=by omega
     have hrng:(0:Int) <= (y.i:Int) /\ (y.i:Int) < ((evL l).length:Int):=⟨by omega,h⟩
     exact ⟨hrng,l[y.i],hget,bcase_of (fun _ => ⟨hrng,l[y.i],hget,bcase_of (fun _ => ⟨hrng,l[y.i],hget,y.c,y.M,y.m,l[y.i],rfl,⟨hI.at_,hI.rep,hI.xt⟩,fun c' σ' ⟨g1,g2,g3⟩ =>
       ⟨⟨σ',c',y.M,_,y.i + 1⟩,⟨⟨g1,g2,hI.xt.frame g3⟩,hμ⟩,rfl,rfl,by rw [w1],rfl,.refl _⟩⟩)
      (fun _ => ⟨⟨y.σ,y.c,y.M,y.m,y.i + 1⟩,⟨⟨hI.at_,hI.rep,hI.xt⟩,hμ⟩,rfl,rfl,by rw [w1],rfl,.refl _⟩)⟩)
      (fun _ => ⟨⟨y.σ,y.c,y.M,y.m,y.i + 1⟩,⟨⟨hI.at_,hI.rep,hI.xt⟩,hμ⟩,rfl,rfl,by rw [w1],rfl,.refl _⟩)⟩
    ·cases e with
     | exit i =>
      match i,kk with
      | 0,kk =>
       have kk:atF a [(3,.v (.ptr y.M 0))] [] (y.σ.Le σ):=kk
       exact ⟨_,_,(atF_ok kk).1,(atF_ok kk).2,hq y hI⟩
     | normal => exact absurd rfl hne
     | _ => exact kk.elim
   ·exact handL_ok (P:=fun c Q a σ => AWp (EV B w0 G1) none (fnTmps Tryz.prog 11) c Q a σ) kk (fun e _ => by rw [headId_11.1] at e; simp at e) (fun kk => kk.elim)
  ·refine handL_ok (P:=fun c Q a σ => AWp (EV B w0 G1) none (fnTmps Tryz.prog 11) c Q a σ) kk (fun e _ => by rw [headId_11.2] at e; simp at e) fun kk => ?_
   refine handL_ok (P:=fun c Q a σ => AWp (EV B w0 G1) none (fnTmps Tryz.prog 11) c Q a σ) kk (fun _ kk => ?_) (fun kk => kk.elim)
   obtain ⟨tl,y,hI,ha,hq⟩:=kk
   refine awp_loopS (ls11b tl (ILb tl)) (x0:=y) (fun y hI => ?_) (fun y hI e a σ hne kk => ?_) hI ha
   ·have hI:ILb tl y:=hI
    show AWp _ _ _ _ _ (frm [(3,.v (.ptr y.M 0)),(70,.v (.slice 1 (intsV tl) .any)),(71,.v (.int .i64 ((intsV tl).length:Int))),(72,.v (.int .i64 (y.i:Int)))] []) y.σ
    refine wpX_ok H11_ok (EV_mixed B w0 G1) (L:=fun _ _ _ _ => False) _ _ _ _ (fun p hp hc Q a σ k => k.elim) (by kernel_rfl) ((vc11b B w0 G1 tl _ y).mpr ?_)
    refine bcase_of (fun h => ?_) (fun _ => trivial)
    have h:=of_decide_eq_true h
    have hi:y.i < tl.length:=by rw [intsV_len] at h; omega
    have hlen:=hI.len
    have w1:IntKind.wrap .i64 ((y.i:Int) + 1) = ((y.i + 1:Nat):Int):=by rw [wr_small (by omega) (by omega)]; omega
    have hμ:tl.length - (y.i + 1) < tl.length - y.i:=by omega
    obtain ⟨r,hr⟩:=hI.turn
    rw [List.drop_eq_getElem_cons hi,List.cons_append] at hr
    obtain ⟨L,p,hL1,hL2,hL3,hW⟩:=hI.l.rep
    refine ⟨⟨by omega,h⟩,tl[y.i],by rw [Int.toNat_natCast,intsV_get hi]; rfl,y.c,y.M,y.m,rfl,⟨hI.l.at_,hI.l.rep⟩,fun hn => ?_,fun x hx c' σ' ⟨g1,g2,g3⟩ => ?_⟩
    ·rcases next_cases hW with ⟨e,_⟩ | ⟨k,r,t,q,_,_,e⟩
     ·rw [hr] at e; cases e
     ·rw [e] at hn; cases hn
    ·rcases next_cases hW with ⟨e,_⟩ | ⟨k,r',t,q,ht,hqq,e⟩
     ·rw [hr] at e; cases e
     ·rw [hr] at ht
      obtain ⟨rfl,rfl⟩:=List.cons.inj ht
      rw [e] at hx
      cases hx
      refine bcase_of (fun h => by simp at h) (fun _ => bcase_of (fun h => by have h:=of_decide_eq_true h; omega) (fun _ => ?_))
      obtain ⟨r2,hr2⟩:=next_turn hW hr hqq
      refine ⟨⟨σ',c',y.M,_,y.i + 1⟩,⟨⟨⟨g1,g2,hI.l.xt.frame g3⟩,hlen,hi,?_⟩,hμ⟩,rfl,rfl,rfl,by rw [w1],.refl _⟩
      rw [e]
      exact ⟨r ++ r2,by rw [hr2,List.append_assoc]⟩
   ·cases e with
    | exit i =>
     match i,kk with
     | 2,kk => exact ⟨_,σ,(atF_ok (F:=[]) (FL:=[]) (R:=True) ⟨⟩).1,.refl _,hq σ⟩
    | normal => exact absurd rfl hne
    | _ => exact kk.elim
 ·have h1:=of_decide_eq_false h1
  have h2:=of_decide_eq_false h2
  refine ⟨noneH,N,rfl,noneH_at _,fun h => by omega,fun _ c' σ' M ⟨g1,g2,g3⟩ => ?_⟩
  refine ⟨⟨σ',c',M,_,0⟩,⟨g1,g2,noneH_xt.frame g3⟩,⟨rfl,rfl,rfl,rfl,.refl _⟩,fun y hI => ?_⟩
  refine ⟨y.c,y.M,y.m,rfl,⟨hI.at_,hI.rep⟩,fun σ2 hA2 => ⟨y.m.turn,⟨σ2,y.c,y.M,y.m,0⟩,⟨⟨hA2,hI.rep,hI.xt⟩,?_,Nat.zero_le _,⟨[],by simp⟩⟩,⟨rfl,rfl,rfl,rfl,.refl _⟩,fun σ3 => rfl⟩⟩
  obtain ⟨L,p,_,_,_,hW⟩:=hI.rep
  have:=nd_len hW.w
  have:=hW.w.len
  omega
end
end Go.V
