import Derived.Test.YtgnjidopnplbbaaGreatDoorN25
/- Conditions: the law StreamOnce. -/
set_option maxRecDepth 1000000
set_option linter.unusedVariables false
namespace Go.V
open Go Go.Proofs

structure RSo where
 id:Nat
 off:Nat
 n:Nat
def intsO (l:List Int):List AV:=l.map fun i => AV.int .i64 i
def itemsO (l:List (Nat × T)):List AV:=l.map itemC
def hRSo:Hint:=Hint.ofNil (fun x:OE => AObj.cells x.cs 23 1 x.g) (fun x:RSo => AV.rslice x.id x.off x.n)
def hTmo:Hint:=Hint.ofAs (fun x:OE => AObj.cells x.cs 37 4 x.g) (fun t:T => AV.agg [.int .i64 t.k,.int .i64 t.n,.str t.s,.slice 4 (tcellL t.l) .any])
def hIno:Hint:=Hint.ofAs (fun x:OE => AObj.cells x.cs 3 1 x.g) (fun n:Int => AV.int .i64 n)
def hItemO:Hint:=Hint.as (fun x:Nat × T => .vptr [.int .i64 (x.1:Int),.int .i64 x.2.k,.int .i64 x.2.n,.str x.2.s,.slice 4 (tcellL x.2.l) .any])
def A10:Nat -> FnAnn:=fun f => match Nat.beq f 10 with
 | true => ⟨fun id i => match Nat.beq id 34 && Nat.beq i 9,Nat.beq id 36 && Nat.beq i 11 with
  | true,_ => .off
  | false,true => .off
  | false,false => annB ((luk ([]:List Nat) [(26,[2]),(27,[4])] id).contains i),luk [] [(33,[0,1,2]),(34,[9,11]),(36,[11,13]),(40,[29]),(42,[10])]⟩
 | false => annA f
structure YO where
 σ:State
 c:MH
 M:Nat
 m:RM
 ic:Nat
 ib:Nat
 n:Nat
 i:Nat
 j:Nat
 b:Int
def FL10 (N:Int) (l:List Ev):List (Nat × List AV):=[(1,[.int .i64 N,.slice 7 (evL l) .any])]
/- the first loop -/
def ls10a (N:Int) (l:List Ev) (I:YO -> Prop):LS YO where
 F y:=[(1,.l 1 0),(3,.v (.ptr y.M 0)),(5,.v (.rslice y.ic 0 y.n)),(6,.v (.rslice y.ib 0 y.n)),(48,.v (.int .i64 (y.n:Int))),(49,.v (.int .i64 (y.i:Int)))]
 FL _:=[(1,[.int .i64 N,.slice 7 (evL l) .any])]
 S y:=y.σ
 I:=I
 μ y:=y.n - y.i
 Ex y e a σ:=match e with
  | .exit 0 => ¬ (y.i < y.n) /\ atF a [(1,.l 1 0),(3,.v (.ptr y.M 0)),(5,.v (.rslice y.ic 0 y.n)),(6,.v (.rslice y.ib 0 y.n))] [(1,[.int .i64 N,.slice 7 (evL l) .any])] (y.σ.Le σ)
  | _ => False
theorem fnParts_10:fnParts Tryz.prog [] 10 = [.loop (bodyOf (fnPart Tryz.prog [] 10 0)),.loop (bodyOf (fnPart Tryz.prog [] 10 1))]:=by kernel_rfl
def N10a:FnHint:=hAt [(13,2,hEl 3 1),(13,3,hEl 3 1)]
theorem vc10a (B:Nat) (w0:World) (G:Nat -> AV) (N:Int) (l:List Ev) (I:YO -> Prop) (y:YO):(wpX [] (EV B w0 G) (H0 (EV B w0 G)) (fun _ _ _ _ => False) (A10 10) N10a (bodyOf (fnPart Tryz.prog [] 10 0)) ((ls10a N l I).post y) (frm [(1,.l 1 0),(3,.v (.ptr y.M 0)),(5,.v (.rslice y.ic 0 y.n)),(6,.v (.rslice y.ib 0 y.n)),(48,.v (.int .i64 (y.n:Int))),(49,.v (.int .i64 (y.i:Int)))] [(1,[.int .i64 N,.slice 7 (evL l) .any])]) y.σ) =
 ((bcase (decide ((((YO.i y:Nat):Int):Int) < ((YO.n y:Nat):Int)))
 (∃ a0:OE,(((State.objs (y.1) (YO.ib y)) = (AObj.cells (OE.cs a0) 3 1 (OE.g a0)))/\
 ((((0:Int) <= ((YO.i y:Nat):Int))/\
 ((((YO.i y:Nat):Int):Int) < ((YO.n y:Nat):Int)))/\
 (∃ a1:OE,(((State.objs (y.1) (YO.ib y)) = (AObj.cells (OE.cs a1) 3 1 (OE.g a1)))/\
 ((((((0 + (Int.toNat ((YO.i y:Nat):Int))) * 1) + 1):Nat) <= (List.length (OE.cs a1)))/\
 (∃ x'2:YO,(((I (x'2))/\
 (((LS.μ (ls10a N l I) x'2):Nat) < (LS.μ (ls10a N l I) y)))/\
 ((Rf (TV.l 1 0))/\
 (((TV.v (AV.ptr (YO.M y) 0)) = (TV.v (AV.ptr (YO.M x'2) 0)))/\
 (((TV.v (AV.rslice (YO.ic y) 0 (YO.n y))) = (TV.v (AV.rslice (YO.ic x'2) 0 (YO.n x'2))))/\
 (((TV.v (AV.rslice (YO.ib y) 0 (YO.n y))) = (TV.v (AV.rslice (YO.ib x'2) 0 (YO.n x'2))))/\
 (((TV.v (AV.int .i64 ((YO.n y:Nat):Int))) = (TV.v (AV.int .i64 ((YO.n x'2:Nat):Int))))/\
 (((TV.v (AV.int .i64 (IntKind.wrap .i64 (((YO.i y:Nat):Int) + 1)))) = (TV.v (AV.int .i64 ((YO.i x'2:Nat):Int))))/\
 ((Rf [(AV.int .i64 (N)),(AV.slice 7 (evL l) Cap.any)])/\
 (State.Le ((ls10a N l I).3 x'2) (State.set (y.1) (YO.ib y) (AObj.cells (asplice (OE.cs a1) ((0 + (Int.toNat ((YO.i y:Nat):Int))) * 1) [(AV.int .i64 (-1))]) 3 1 (OE.g a1)))))))))))))))))))
 ((((YO.i y:Nat) < (YO.n y)) -> False)/\
 ((Rf (TV.l 1 0))/\
 ((Rf (TV.v (AV.ptr (YO.M y) 0)))/\
 ((Rf (TV.v (AV.rslice (YO.ic y) 0 (YO.n y))))/\
 ((Rf (TV.v (AV.rslice (YO.ib y) 0 (YO.n y))))/\
 ((Rf [(AV.int .i64 (N)),(AV.slice 7 (evL l) Cap.any)])/\
 (State.Le (y.1) (y.1)))))))))):=by kernel_rfl
def T10a (N:Int) (l:List Ev) (I R:YO -> Prop):LHand:=fun _ Q a σ => ∃ y:YO,I y /\ atF a ((ls10a N l I).F y) (FL10 N l) (y.σ.Le σ) /\
 ∀ y':YO,R y' -> Q (.exit 0) (frm [(1,.l 1 0),(3,.v (.ptr y'.M 0)),(5,.v (.rslice y'.ic 0 y'.n)),(6,.v (.rslice y'.ib 0 y'.n))] (FL10 N l)) y'.σ
/- the chain of inputs behind which one stands -/
def F10 (y:YO):List (Nat × TV):=[(1,.l 1 0),(3,.v (.ptr y.M 0)),(5,.v (.rslice y.ic 0 y.n)),(6,.v (.rslice y.ib 0 y.n)),(8,.v (.int .i64 (y.i:Int)))]
def ls10e (N:Int) (l:List Ev) (x:List (Nat × T)) (I:YO -> Prop):LS YO where
 F y:=[(1,.l 1 0),(3,.v (.ptr y.M 0)),(5,.v (.rslice y.ic 0 y.n)),(6,.v (.rslice y.ib 0 y.n)),(8,.v (.int .i64 (y.i:Int))),(157,.v (.slice 5 (itemsO x) .any)),(158,.v (.int .i64 ((itemsO x).length:Int))),(159,.v (.int .i64 (y.j:Int))),(18,.v (.int .i64 y.b))]
 FL _:=[(1,[.int .i64 N,.slice 7 (evL l) .any])]
 S y:=y.σ
 I:=I
 μ y:=(y.b + 1).toNat
 Ex y e a σ:=match e with
  | .exit 8 => atF a [(1,.l 1 0),(3,.v (.ptr y.M 0)),(5,.v (.rslice y.ic 0 y.n)),(6,.v (.rslice y.ib 0 y.n)),(8,.v (.int .i64 (y.i:Int))),(157,.v (.slice 5 (itemsO x) .any)),(158,.v (.int .i64 ((itemsO x).length:Int))),(159,.v (.int .i64 (y.j:Int)))] [(1,[.int .i64 N,.slice 7 (evL l) .any])] (y.σ.Le σ)
  | _ => False
def N10e:FnHint:=hAt [(46,2,hEl 23 1),(46,3,hRSo),(45,2,hEl 3 1),(45,3,hIno)]
theorem vc10e (B:Nat) (w0:World) (G:Nat -> AV) (N:Int) (l:List Ev) (x:List (Nat × T)) (I:YO -> Prop) (y:YO):(wpX [] (EV B w0 G) (H0 (EV B w0 G)) (fun _ _ _ _ => False) (A10 10) N10e (bodyOf (subPart [] (subPart [] (fnPart Tryz.prog [] 10 1) 1) 0)) ((ls10e N l x I).post y) (frm [(1,.l 1 0),(3,.v (.ptr y.M 0)),(5,.v (.rslice y.ic 0 y.n)),(6,.v (.rslice y.ib 0 y.n)),(8,.v (.int .i64 (y.i:Int))),(157,.v (.slice 5 (itemsO x) .any)),(158,.v (.int .i64 ((itemsO x).length:Int))),(159,.v (.int .i64 (y.j:Int))),(18,.v (.int .i64 y.b))] [(1,[.int .i64 N,.slice 7 (evL l) .any])]) y.σ) =
 ((bcase (decide (((YO.b y):Int) ≥ 0))
 (bcase (decide (((YO.b y):Int) < ((YO.n y:Nat):Int)))
 (∃ a0:OE,(((State.objs (y.1) (YO.ic y)) = (AObj.cells (OE.cs a0) 23 1 (OE.g a0)))/\
 ((((0:Int) <= (YO.b y))/\
 (((YO.b y):Int) < ((YO.n y:Nat):Int)))/\
 (∃ a1:OE,(((State.objs (y.1) (YO.ic y)) = (AObj.cells (OE.cs a1) 23 1 (OE.g a1)))/\
 (((((0 + (Int.toNat (YO.b y))) * 1):Nat) < (List.length (OE.cs a1)))/\
 ((((List.getD (OE.cs a1) ((0 + Int.toNat (YO.b y)) * 1) AV.undef) = AV.nilslice)/\
 (∃ a2:OE,(((State.objs (y.1) (YO.ib y)) = (AObj.cells (OE.cs a2) 3 1 (OE.g a2)))/\
 ((((0:Int) <= (YO.b y))/\
 (((YO.b y):Int) < ((YO.n y:Nat):Int)))/\
 (∃ a3:OE,(((State.objs (y.1) (YO.ib y)) = (AObj.cells (OE.cs a3) 3 1 (OE.g a3)))/\
 (((((0 + (Int.toNat (YO.b y))) * 1):Nat) < (List.length (OE.cs a3)))/\
 (∃ x4:Int,(((List.getD (OE.cs a3) ((0 + Int.toNat (YO.b y)) * 1) AV.undef) = (AV.int .i64 (x4)))/\
 (∃ x'5:YO,(((I (x'5))/\
 (((LS.μ (ls10e N l x I) x'5):Nat) < (LS.μ (ls10e N l x I) y)))/\
 ((Rf (TV.l 1 0))/\
 (((TV.v (AV.ptr (YO.M y) 0)) = (TV.v (AV.ptr (YO.M x'5) 0)))/\
 (((TV.v (AV.rslice (YO.ic y) 0 (YO.n y))) = (TV.v (AV.rslice (YO.ic x'5) 0 (YO.n x'5))))/\
 (((TV.v (AV.rslice (YO.ib y) 0 (YO.n y))) = (TV.v (AV.rslice (YO.ib x'5) 0 (YO.n x'5))))/\
 (((TV.v (AV.int .i64 ((YO.i y:Nat):Int))) = (TV.v (AV.int .i64 ((YO.i x'5:Nat):Int))))/\
 ((Rf (TV.v (AV.slice 5 (itemsO x) Cap.any)))/\
 ((Rf (TV.v (AV.int .i64 (((List.length (itemsO x)):Nat):Int))))/\
 (((TV.v (AV.int .i64 ((YO.j y:Nat):Int))) = (TV.v (AV.int .i64 ((YO.j x'5:Nat):Int))))/\
 (((TV.v (AV.int .i64 (x4))) = (TV.v (AV.int .i64 (YO.b x'5))))/\
 ((Rf [(AV.int .i64 (N)),(AV.slice 7 (evL l) Cap.any)])/\
 (State.Le ((ls10e N l x I).3 x'5) (y.1))))))))))))))))))))))) \/ (∃ x2:RSo,(((List.getD (OE.cs a1) ((0 + Int.toNat (YO.b y)) * 1) AV.undef) = (AV.rslice (RSo.id x2) (RSo.off x2) (RSo.n x2)))/\
 (bcase (decide ((((RSo.n x2:Nat):Int):Int) > 0))
 False
 (∃ a3:OE,(((State.objs (y.1) (YO.ib y)) = (AObj.cells (OE.cs a3) 3 1 (OE.g a3)))/\
 ((((0:Int) <= (YO.b y))/\
 (((YO.b y):Int) < ((YO.n y:Nat):Int)))/\
 (∃ a4:OE,(((State.objs (y.1) (YO.ib y)) = (AObj.cells (OE.cs a4) 3 1 (OE.g a4)))/\
 (((((0 + (Int.toNat (YO.b y))) * 1):Nat) < (List.length (OE.cs a4)))/\
 (∃ x5:Int,(((List.getD (OE.cs a4) ((0 + Int.toNat (YO.b y)) * 1) AV.undef) = (AV.int .i64 (x5)))/\
 (∃ x'6:YO,(((I (x'6))/\
 (((LS.μ (ls10e N l x I) x'6):Nat) < (LS.μ (ls10e N l x I) y)))/\
 ((Rf (TV.l 1 0))/\
 (((TV.v (AV.ptr (YO.M y) 0)) = (TV.v (AV.ptr (YO.M x'6) 0)))/\
 (((TV.v (AV.rslice (YO.ic y) 0 (YO.n y))) = (TV.v (AV.rslice (YO.ic x'6) 0 (YO.n x'6))))/\
 (((TV.v (AV.rslice (YO.ib y) 0 (YO.n y))) = (TV.v (AV.rslice (YO.ib x'6) 0 (YO.n x'6))))/\
 (((TV.v (AV.int .i64 ((YO.i y:Nat):Int))) = (TV.v (AV.int .i64 ((YO.i x'6:Nat):Int))))/\
 ((Rf (TV.v (AV.slice 5 (itemsO x) Cap.any)))/\
 ((Rf (TV.v (AV.int .i64 (((List.length (itemsO x)):Nat):Int))))/\
 (((TV.v (AV.int .i64 ((YO.j y:Nat):Int))) = (TV.v (AV.int .i64 ((YO.j x'6:Nat):Int))))/\
 (((TV.v (AV.int .i64 (x5))) = (TV.v (AV.int .i64 (YO.b x'6))))/\
 ((Rf [(AV.int .i64 (N)),(AV.slice 7 (evL l) Cap.any)])/\
 (State.Le ((ls10e N l x I).3 x'6) (y.1))))))))))))))))))))))))))))))))
 ((Rf (TV.l 1 0))/\
 ((Rf (TV.v (AV.ptr (YO.M y) 0)))/\
 ((Rf (TV.v (AV.rslice (YO.ic y) 0 (YO.n y))))/\
 ((Rf (TV.v (AV.rslice (YO.ib y) 0 (YO.n y))))/\
 ((Rf (TV.v (AV.int .i64 ((YO.i y:Nat):Int))))/\
 ((Rf (TV.v (AV.slice 5 (itemsO x) Cap.any)))/\
 ((Rf (TV.v (AV.int .i64 (((List.length (itemsO x)):Nat):Int))))/\
 ((Rf (TV.v (AV.int .i64 ((YO.j y:Nat):Int))))/\
 ((Rf [(AV.int .i64 (N)),(AV.slice 7 (evL l) Cap.any)])/\
 (State.Le (y.1) (y.1))))))))))))
 ((Rf (TV.l 1 0))/\
 ((Rf (TV.v (AV.ptr (YO.M y) 0)))/\
 ((Rf (TV.v (AV.rslice (YO.ic y) 0 (YO.n y))))/\
 ((Rf (TV.v (AV.rslice (YO.ib y) 0 (YO.n y))))/\
 ((Rf (TV.v (AV.int .i64 ((YO.i y:Nat):Int))))/\
 ((Rf (TV.v (AV.slice 5 (itemsO x) Cap.any)))/\
 ((Rf (TV.v (AV.int .i64 (((List.length (itemsO x)):Nat):Int))))/\
 ((Rf (TV.v (AV.int .i64 ((YO.j y:Nat):Int))))/\
 ((Rf [(AV.int .i64 (N)),(AV.slice 7 (evL l) Cap.any)])/\
 (State.Le (y.1) (y.1))))))))))))):=by kernel_rfl
def T10e (N:Int) (l:List Ev) (x:List (Nat × T)) (I:YO -> Prop):LHand:=fun _ Q a σ => ∃ y:YO,I y /\ atF a ((ls10e N l x I).F y) (FL10 N l) (y.σ.Le σ) /\
 ∀ y':YO,I y' -> Q (.exit 8) (frm [(1,.l 1 0),(3,.v (.ptr y'.M 0)),(5,.v (.rslice y'.ic 0 y'.n)),(6,.v (.rslice y'.ib 0 y'.n)),(8,.v (.int .i64 (y'.i:Int))),(157,.v (.slice 5 (itemsO x) .any)),(158,.v (.int .i64 ((itemsO x).length:Int))),(159,.v (.int .i64 (y'.j:Int)))] (FL10 N l)) y'.σ
/- the items of an event -/
def H10d (E:Env) (S:Nat):Hand:=hnd E annA noHints [(33,C33 S)]
def ls10d (N:Int) (l:List Ev) (x:List (Nat × T)) (I:YO -> Prop):LS YO where
 F y:=[(1,.l 1 0),(3,.v (.ptr y.M 0)),(5,.v (.rslice y.ic 0 y.n)),(6,.v (.rslice y.ib 0 y.n)),(8,.v (.int .i64 (y.i:Int))),(157,.v (.slice 5 (itemsO x) .any)),(158,.v (.int .i64 ((itemsO x).length:Int))),(159,.v (.int .i64 (y.j:Int)))]
 FL _:=[(1,[.int .i64 N,.slice 7 (evL l) .any])]
 S y:=y.σ
 I:=I
 μ y:=x.length - y.j
 Ex y e a σ:=match e with
  | .exit 6 => ¬ (y.j < x.length) /\ atF a [(1,.l 1 0),(3,.v (.ptr y.M 0)),(5,.v (.rslice y.ic 0 y.n)),(6,.v (.rslice y.ib 0 y.n)),(8,.v (.int .i64 (y.i:Int)))] [(1,[.int .i64 N,.slice 7 (evL l) .any])] (y.σ.Le σ)
  | _ => False
def N10d:FnHint:=hAt [(39,0,hItemO),(40,14,hEl 23 1),(40,15,hRSo),(40,23,hEl 23 1),(40,24,hRSo),(40,25,hEl 37 4),(40,26,hTmo),(42,6,hEl 23 1),(42,7,hRSo),(42,8,hEl 37 4),(42,9,hEl 23 1),(42,10,hEl 23 1),(43,3,hEl 3 1),(43,4,hIno)]
theorem vc10d (B:Nat) (w0:World) (G:Nat -> AV) (S:Nat) (N:Int) (l:List Ev) (x:List (Nat × T)) (I P:YO -> Prop) (y:YO):(wpX [] (EV B w0 G) (H10d (EV B w0 G) S) (T10e N l x P) (A10 10) N10d (bodyOf (subPart [] (fnPart Tryz.prog [] 10 1) 1)) ((ls10d N l x I).post y) (frm [(1,.l 1 0),(3,.v (.ptr y.M 0)),(5,.v (.rslice y.ic 0 y.n)),(6,.v (.rslice y.ib 0 y.n)),(8,.v (.int .i64 (y.i:Int))),(157,.v (.slice 5 (itemsO x) .any)),(158,.v (.int .i64 ((itemsO x).length:Int))),(159,.v (.int .i64 (y.j:Int)))] [(1,[.int .i64 N,.slice 7 (evL l) .any])]) y.σ) =
 ((bcase (decide ((((YO.j y:Nat):Int):Int) < (((List.length (itemsO x)):Nat):Int)))
 ((((0:Int) <= ((YO.j y:Nat):Int))/\
 ((((YO.j y:Nat):Int):Int) < (((List.length (itemsO x)):Nat):Int)))/\
 (∃ x0:Nat × T,(((AV.vptr (AV.cells (List.getD (itemsO x) (Int.toNat (↑(YO.j y):Int)) AV.undef))) = (AV.vptr [(AV.int .i64 ((Prod.fst x0:Nat):Int)),(AV.int .i64 (T.k (Prod.snd x0))),(AV.int .i64 (T.n (Prod.snd x0))),(AV.str (T.s (Prod.snd x0))),(AV.slice 4 (tcellL (T.l (Prod.snd x0))) Cap.any)]))/\
 (bcase (decide ((((Prod.fst x0:Nat):Int):Int) ≥ ((YO.n y:Nat):Int)))
 False
 (∃ a1:OE,(((State.objs (y.1) (YO.ic y)) = (AObj.cells (OE.cs a1) 23 1 (OE.g a1)))/\
 ((((0:Int) <= ((Prod.fst x0:Nat):Int))/\
 ((((Prod.fst x0:Nat):Int):Int) < ((YO.n y:Nat):Int)))/\
 (∃ a2:OE,(((State.objs (y.1) (YO.ic y)) = (AObj.cells (OE.cs a2) 23 1 (OE.g a2)))/\
 (((((0 + (Int.toNat ((Prod.fst x0:Nat):Int))) * 1):Nat) < (List.length (OE.cs a2)))/\
 ((((List.getD (OE.cs a2) ((0 + Int.toNat (↑(Prod.fst x0):Int)) * 1) AV.undef) = AV.nilslice)/\
 False) \/ (∃ x3:RSo,(((List.getD (OE.cs a2) ((0 + Int.toNat (↑(Prod.fst x0):Int)) * 1) AV.undef) = (AV.rslice (RSo.id x3) (RSo.off x3) (RSo.n x3)))/\
 (bcase ((((RSo.n x3:Nat):Int):Int) == 0)
 False
 (∃ a4:OE,(((State.objs (y.1) (YO.ic y)) = (AObj.cells (OE.cs a4) 23 1 (OE.g a4)))/\
 ((((0:Int) <= ((Prod.fst x0:Nat):Int))/\
 ((((Prod.fst x0:Nat):Int):Int) < ((YO.n y:Nat):Int)))/\
 (∃ a5:OE,(((State.objs (y.1) (YO.ic y)) = (AObj.cells (OE.cs a5) 23 1 (OE.g a5)))/\
 (((((0 + (Int.toNat ((Prod.fst x0:Nat):Int))) * 1):Nat) < (List.length (OE.cs a5)))/\
 ((((List.getD (OE.cs a5) ((0 + Int.toNat (↑(Prod.fst x0):Int)) * 1) AV.undef) = AV.nilslice)/\
 False) \/ (∃ x6:RSo,(((List.getD (OE.cs a5) ((0 + Int.toNat (↑(Prod.fst x0):Int)) * 1) AV.undef) = (AV.rslice (RSo.id x6) (RSo.off x6) (RSo.n x6)))/\
 (∃ a7:OE,(((State.objs (y.1) (RSo.id x6)) = (AObj.cells (OE.cs a7) 37 4 (OE.g a7)))/\
 ((((0:Int) <= 0)/\
 ((0:Int) < ((RSo.n x6:Nat):Int)))/\
 (∃ a8:OE,(((State.objs (y.1) (RSo.id x6)) = (AObj.cells (OE.cs a8) 37 4 (OE.g a8)))/\
 (((((((RSo.off x6) + 0) * 4) + 4):Nat) <= (List.length (OE.cs a8)))/\
 (∃ x9:T,(((AV.agg (List.take 4 (List.drop (((RSo.off x6) + 0) * 4) (OE.cs a8)))) = (AV.agg [(AV.int .i64 (T.k x9)),(AV.int .i64 (T.n x9)),(AV.str (T.s x9)),(AV.slice 4 (tcellL (T.l x9)) Cap.any)]))/\
 (∃ a10:T,(∃ b11:T,(([(AV.agg [(AV.int .i64 (T.k x9)),(AV.int .i64 (T.n x9)),(AV.str (T.s x9)),(AV.slice 4 (tcellL (T.l x9)) Cap.any)]),(AV.agg [(AV.int .i64 (T.k (Prod.snd x0))),(AV.int .i64 (T.n (Prod.snd x0))),(AV.str (T.s (Prod.snd x0))),(AV.slice 4 (tcellL (T.l (Prod.snd x0))) Cap.any)])] = [(AV.agg [(AV.int .i64 (T.k a10)),(AV.int .i64 (T.n a10)),(AV.str (T.s a10)),(AV.slice 4 (tcellL (T.l a10)) Cap.any)]),(AV.agg [(AV.int .i64 (T.k b11)),(AV.int .i64 (T.n b11)),(AV.str (T.s b11)),(AV.slice 4 (tcellL (T.l b11)) Cap.any)])])/\
 (((T.small a10)/\
 ((SizeOf.sizeOf a10:Nat) < (S)))/\
 (bcase (!(same a10 b11))
 False
 (∃ a12:OE,(((State.objs (State.untok (y.1)) (YO.ic y)) = (AObj.cells (OE.cs a12) 23 1 (OE.g a12)))/\
 ((((0:Int) <= ((Prod.fst x0:Nat):Int))/\
 ((((Prod.fst x0:Nat):Int):Int) < ((YO.n y:Nat):Int)))/\
 (∃ a13:OE,(((State.objs (State.untok (y.1)) (YO.ic y)) = (AObj.cells (OE.cs a13) 23 1 (OE.g a13)))/\
 (((((0 + (Int.toNat ((Prod.fst x0:Nat):Int))) * 1):Nat) < (List.length (OE.cs a13)))/\
 ((((List.getD (OE.cs a13) ((0 + Int.toNat (↑(Prod.fst x0):Int)) * 1) AV.undef) = AV.nilslice)/\
 False) \/ (∃ x14:RSo,(((List.getD (OE.cs a13) ((0 + Int.toNat (↑(Prod.fst x0):Int)) * 1) AV.undef) = (AV.rslice (RSo.id x14) (RSo.off x14) (RSo.n x14)))/\
 (∃ a15:OE,(((State.objs (State.untok (y.1)) (RSo.id x14)) = (AObj.cells (OE.cs a15) 37 4 (OE.g a15)))/\
 ((((0:Int) <= 1)/\
 ((1:Int) <= ((RSo.n x14:Nat):Int)))/\
 (∃ a16:OE,(((State.objs (State.untok (y.1)) (YO.ic y)) = (AObj.cells (OE.cs a16) 23 1 (OE.g a16)))/\
 ((((0:Int) <= ((Prod.fst x0:Nat):Int))/\
 ((((Prod.fst x0:Nat):Int):Int) < ((YO.n y:Nat):Int)))/\
 (∃ a17:OE,(((State.objs (State.untok (y.1)) (YO.ic y)) = (AObj.cells (OE.cs a17) 23 1 (OE.g a17)))/\
 ((((((0 + (Int.toNat ((Prod.fst x0:Nat):Int))) * 1) + 1):Nat) <= (List.length (OE.cs a17)))/\
 (∃ a18:OE,(((State.objs (State.set (State.untok (y.1)) (YO.ic y) (AObj.cells (asplice (OE.cs a17) ((0 + (Int.toNat ((Prod.fst x0:Nat):Int))) * 1) [(AV.rslice (RSo.id x14) ((RSo.off x14) + 1) ((RSo.n x14) - 1))]) 23 1 (OE.g a17))) (YO.ib y)) = (AObj.cells (OE.cs a18) 3 1 (OE.g a18)))/\
 ((((0:Int) <= ((Prod.fst x0:Nat):Int))/\
 ((((Prod.fst x0:Nat):Int):Int) < ((YO.n y:Nat):Int)))/\
 (∃ a19:OE,(((State.objs (State.set (State.untok (y.1)) (YO.ic y) (AObj.cells (asplice (OE.cs a17) ((0 + (Int.toNat ((Prod.fst x0:Nat):Int))) * 1) [(AV.rslice (RSo.id x14) ((RSo.off x14) + 1) ((RSo.n x14) - 1))]) 23 1 (OE.g a17))) (YO.ib y)) = (AObj.cells (OE.cs a19) 3 1 (OE.g a19)))/\
 (((((0 + (Int.toNat ((Prod.fst x0:Nat):Int))) * 1):Nat) < (List.length (OE.cs a19)))/\
 (∃ x20:Int,(((List.getD (OE.cs a19) ((0 + Int.toNat (↑(Prod.fst x0):Int)) * 1) AV.undef) = (AV.int .i64 (x20)))/\
 (∃ y21:YO,((P (y21))/\
 (((Rf (TV.l 1 0))/\
 (((TV.v (AV.ptr (YO.M y) 0)) = (TV.v (AV.ptr (YO.M y21) 0)))/\
 (((TV.v (AV.rslice (YO.ic y) 0 (YO.n y))) = (TV.v (AV.rslice (YO.ic y21) 0 (YO.n y21))))/\
 (((TV.v (AV.rslice (YO.ib y) 0 (YO.n y))) = (TV.v (AV.rslice (YO.ib y21) 0 (YO.n y21))))/\
 (((TV.v (AV.int .i64 ((YO.i y:Nat):Int))) = (TV.v (AV.int .i64 ((YO.i y21:Nat):Int))))/\
 ((Rf (TV.v (AV.slice 5 (itemsO x) Cap.any)))/\
 ((Rf (TV.v (AV.int .i64 (((List.length (itemsO x)):Nat):Int))))/\
 (((TV.v (AV.int .i64 ((YO.j y:Nat):Int))) = (TV.v (AV.int .i64 ((YO.j y21:Nat):Int))))/\
 (((TV.v (AV.int .i64 (x20))) = (TV.v (AV.int .i64 (YO.b y21))))/\
 ((Rf [(AV.int .i64 (N)),(AV.slice 7 (evL l) Cap.any)])/\
 (State.Le (y21.1) (State.set (State.untok (y.1)) (YO.ic y) (AObj.cells (asplice (OE.cs a17) ((0 + (Int.toNat ((Prod.fst x0:Nat):Int))) * 1) [(AV.rslice (RSo.id x14) ((RSo.off x14) + 1) ((RSo.n x14) - 1))]) 23 1 (OE.g a17))))))))))))))/\
 (∀ y'22:YO,((P (y'22)) -> (∃ x'23:YO,(((I (x'23))/\
 (((LS.μ (ls10d N l x I) x'23):Nat) < (LS.μ (ls10d N l x I) y)))/\
 ((Rf (TV.l 1 0))/\
 (((TV.v (AV.ptr (YO.M y'22) 0)) = (TV.v (AV.ptr (YO.M x'23) 0)))/\
 (((TV.v (AV.rslice (YO.ic y'22) 0 (YO.n y'22))) = (TV.v (AV.rslice (YO.ic x'23) 0 (YO.n x'23))))/\
 (((TV.v (AV.rslice (YO.ib y'22) 0 (YO.n y'22))) = (TV.v (AV.rslice (YO.ib x'23) 0 (YO.n x'23))))/\
 (((TV.v (AV.int .i64 ((YO.i y'22:Nat):Int))) = (TV.v (AV.int .i64 ((YO.i x'23:Nat):Int))))/\
 ((Rf (TV.v (AV.slice 5 (itemsO x) Cap.any)))/\
 ((Rf (TV.v (AV.int .i64 (((List.length (itemsO x)):Nat):Int))))/\
 (((TV.v (AV.int .i64 (IntKind.wrap .i64 (((YO.j y'22:Nat):Int) + 1)))) = (TV.v (AV.int .i64 ((YO.j x'23:Nat):Int))))/\
 ((Rf [(AV.int .i64 (N)),(AV.slice 7 (evL l) Cap.any)])/\
 (State.Le ((ls10d N l x I).3 x'23) (y'22.1))))))))))))))))))))))))))))))))))))))))))))))))))))))))))))))))))))))))))))))))
 ((((YO.j y:Nat) < (List.length (x))) -> False)/\
 ((Rf (TV.l 1 0))/\
 ((Rf (TV.v (AV.ptr (YO.M y) 0)))/\
 ((Rf (TV.v (AV.rslice (YO.ic y) 0 (YO.n y))))/\
 ((Rf (TV.v (AV.rslice (YO.ib y) 0 (YO.n y))))/\
 ((Rf (TV.v (AV.int .i64 ((YO.i y:Nat):Int))))/\
 ((Rf [(AV.int .i64 (N)),(AV.slice 7 (evL l) Cap.any)])/\
 (State.Le (y.1) (y.1))))))))))):=by kernel_rfl
/- a split's inputs -/
structure GO where
 out:List Nat
 e:Ev
 err:Int
def F10c (out:List Nat) (err:Int) (y:YO):List (Nat × TV):=[(1,.l 1 0),(3,.v (.ptr y.M 0)),(5,.v (.rslice y.ic 0 y.n)),(6,.v (.rslice y.ib 0 y.n)),(8,.v (.int .i64 (y.i:Int))),(9,.l 9 0),(11,.v (.int .i64 err)),(84,.v (.slice 1 (intsV out) .any)),(85,.v (.int .i64 ((intsV out).length:Int))),(86,.v (.int .i64 (y.j:Int)))]
def FL10c (N:Int) (l:List Ev) (e:Ev):List (Nat × List AV):=[(1,[.int .i64 N,.slice 7 (evL l) .any]),(9,[.int .i64 e.k,.int .i64 e.i,.int .i64 e.n,.int .i64 e.t.k,.int .i64 e.t.n,.str e.t.s,.slice 4 (tcellL e.t.l) .any])]
def ls10c (N:Int) (l:List Ev) (g:GO) (I:YO -> Prop):LS YO where
 F y:=F10c g.out g.err y
 FL _:=FL10c N l g.e
 S y:=y.σ
 I:=I
 μ y:=g.out.length - y.j
 Ex y e a σ:=match e with
  | .exit 4 => ¬ (y.j < g.out.length) /\ atF a [(1,.l 1 0),(3,.v (.ptr y.M 0)),(5,.v (.rslice y.ic 0 y.n)),(6,.v (.rslice y.ib 0 y.n)),(8,.v (.int .i64 (y.i:Int)))] [(1,[.int .i64 N,.slice 7 (evL l) .any])] (y.σ.Le σ)
  | _ => False
def N10c:FnHint:=hAt [(23,0,hNat),(26,2,hEl 23 1),(27,4,hEl 3 1)]
theorem vc10c (B:Nat) (w0:World) (G:Nat -> AV) (N:Int) (l:List Ev) (g:GO) (I:YO -> Prop) (y:YO):(wpX [] (EV B w0 G) (H0 (EV B w0 G)) (fun _ _ _ _ => False) (A10 10) N10c (bodyOf (subPart [] (fnPart Tryz.prog [] 10 1) 0)) ((ls10c N l g I).post y) (frm (F10c g.out g.err y) (FL10c N l g.e)) y.σ) =
 ((bcase (decide ((((YO.j y:Nat):Int):Int) < (((List.length (intsV (GO.out g))):Nat):Int)))
 ((((0:Int) <= ((YO.j y:Nat):Int))/\
 ((((YO.j y:Nat):Int):Int) < (((List.length (intsV (GO.out g))):Nat):Int)))/\
 (∃ x0:Nat,(((AV.vptr (AV.cells (List.getD (intsV (GO.out g)) (Int.toNat (↑(YO.j y):Int)) AV.undef))) = (AV.vptr [(AV.int .i64 ((x0:Nat):Int))]))/\
 (bcase (((GO.err g):Int) != 0)
 False
 (bcase ((((x0:Nat):Int):Int) != ((YO.n y:Nat):Int))
 False
 (∃ a1:OE,(((State.objs (y.1) (YO.ic y)) = (AObj.cells (OE.cs a1) 23 1 (OE.g a1)))/\
 ((((0:Nat) = 0)/\
 (((((((YO.n y) + 1) * 24):Nat) <= 140737488355328)/\
 ((((YO.n y) + 1):Nat) <= 4611686018427387904))/\
 ((((YO.n y) * 1):Nat) <= (List.length (OE.cs a1)))))/\
 (∃ a2:OE,(((State.objs (State.new (State.set (y.1) (YO.ic y) AObj.dead) (AObj.cells ((List.take ((YO.n y) * 1) (OE.cs a1)) ++ [AV.nilslice]) 23 1 true)) (YO.ib y)) = (AObj.cells (OE.cs a2) 3 1 (OE.g a2)))/\
 ((((0:Nat) = 0)/\
 (((((((YO.n y) + 1) * 8):Nat) <= 140737488355328)/\
 ((((YO.n y) + 1):Nat) <= 4611686018427387904))/\
 ((((YO.n y) * 1):Nat) <= (List.length (OE.cs a2)))))/\
 (∃ x'3:YO,(((I (x'3))/\
 (((LS.μ (ls10c N l g I) x'3):Nat) < (LS.μ (ls10c N l g I) y)))/\
 ((Rf (TV.l 1 0))/\
 (((TV.v (AV.ptr (YO.M y) 0)) = (TV.v (AV.ptr (YO.M x'3) 0)))/\
 (((TV.v (AV.rslice (State.next (y.1)) 0 ((YO.n y) + 1))) = (TV.v (AV.rslice (YO.ic x'3) 0 (YO.n x'3))))/\
 (((TV.v (AV.rslice ((State.next (y.1)) + 1) 0 ((YO.n y) + 1))) = (TV.v (AV.rslice (YO.ib x'3) 0 (YO.n x'3))))/\
 (((TV.v (AV.int .i64 ((YO.i y:Nat):Int))) = (TV.v (AV.int .i64 ((YO.i x'3:Nat):Int))))/\
 ((Rf (TV.l 9 0))/\
 ((Rf (TV.v (AV.int .i64 (GO.err g))))/\
 ((Rf (TV.v (AV.slice 1 (intsV (GO.out g)) Cap.any)))/\
 ((Rf (TV.v (AV.int .i64 (((List.length (intsV (GO.out g))):Nat):Int))))/\
 (((TV.v (AV.int .i64 (IntKind.wrap .i64 (((YO.j y:Nat):Int) + 1)))) = (TV.v (AV.int .i64 ((YO.j x'3:Nat):Int))))/\
 ((Rf [(AV.int .i64 (N)),(AV.slice 7 (evL l) Cap.any)])/\
 ((Rf [(AV.int .i64 (Ev.k (GO.e g))),(AV.int .i64 (Ev.i (GO.e g))),(AV.int .i64 (Ev.n (GO.e g))),(AV.int .i64 (T.k (Ev.t (GO.e g)))),(AV.int .i64 (T.n (Ev.t (GO.e g)))),(AV.str (T.s (Ev.t (GO.e g)))),(AV.slice 4 (tcellL (T.l (Ev.t (GO.e g)))) Cap.any)])/\
 (State.Le ((ls10c N l g I).3 x'3) (State.new (State.set (State.new (State.set (y.1) (YO.ic y) AObj.dead) (AObj.cells ((List.take ((YO.n y) * 1) (OE.cs a1)) ++ [AV.nilslice]) 23 1 true)) (YO.ib y) AObj.dead) (AObj.cells ((List.take ((YO.n y) * 1) (OE.cs a2)) ++ [(AV.int .i64 (Ev.i (GO.e g)))]) 3 1 true))))))))))))))))))))))))))))
 ((((YO.j y:Nat) < (List.length (GO.out g))) -> False)/\
 ((Rf (TV.l 1 0))/\
 ((Rf (TV.v (AV.ptr (YO.M y) 0)))/\
 ((Rf (TV.v (AV.rslice (YO.ic y) 0 (YO.n y))))/\
 ((Rf (TV.v (AV.rslice (YO.ib y) 0 (YO.n y))))/\
 ((Rf (TV.v (AV.int .i64 ((YO.i y:Nat):Int))))/\
 ((Rf [(AV.int .i64 (N)),(AV.slice 7 (evL l) Cap.any)])/\
 (State.Le (y.1) (y.1))))))))))):=by kernel_rfl
/- the main loop -/
def T10c (N:Int) (l:List Ev) (P R:GO -> YO -> Prop):LHand:=fun _ Q a σ => ∃ (g:GO) (y:YO),P g y /\ atF a (F10c g.out g.err y) (FL10c N l g.e) (y.σ.Le σ) /\
 ∀ y':YO,R g y' -> Q (.exit 4) (frm (F10 y') (FL10 N l)) y'.σ
def T10d (N:Int) (l:List Ev) (P R:List (Nat × T) -> YO -> Prop):LHand:=fun _ Q a σ => ∃ (x:List (Nat × T)) (y:YO),P x y /\ atF a ((ls10d N l x (P x)).F y) (FL10 N l) (y.σ.Le σ) /\
 ∀ y':YO,R x y' -> Q (.exit 6) (frm (F10 y') (FL10 N l)) y'.σ
def H10b (E:Env):Hand:=hnd E annA noHints [(42,C42r),(45,C45r)]
def ls10b (N:Int) (l:List Ev) (I:YO -> Prop):LS YO where
 F y:=F10 y
 FL _:=FL10 N l
 S y:=y.σ
 I:=I
 μ y:=l.length - y.i
 Ex y e a σ:=match e with
  | .exit 2 => True
  | _ => False
def N10b:FnHint:=hAt [(18,3,hEv),(34,3,hEl 23 1),(34,4,hRSo),(34,9,hEl 37 4),(34,10,hEl 23 1),(34,11,hEl 23 1),(35,0,hEl 37 4),(35,1,hEl 37 4),(36,6,hEl 23 1),(36,7,hRSo),(36,11,hEl 37 4),(36,12,hEl 23 1),(36,13,hEl 23 1)]
theorem headId_10:headId (.loop (bodyOf (fnPart Tryz.prog [] 10 0))) = some 11 /\ headId (.loop (bodyOf (fnPart Tryz.prog [] 10 1))) = some 16:=⟨by kernel_rfl,by kernel_rfl⟩
theorem vc10b (B:Nat) (w0:World) (G:Nat -> AV) (N:Int) (l:List Ev) (Pc Rc:GO -> YO -> Prop) (Pd Rd:List (Nat × T) -> YO -> Prop) (I:YO -> Prop) (y:YO):(wpX [] (EV B w0 G) (H10b (EV B w0 G)) (handL [(22,T10c N l Pc Rc),(38,T10d N l Pd Rd)]) (A10 10) N10b (bodyOf (fnPart Tryz.prog [] 10 1)) ((ls10b N l I).post y) (frm (F10 y) (FL10 N l)) y.σ) =
 ((bcase (decide ((((YO.i y:Nat):Int):Int) < (((List.length (evL l)):Nat):Int)))
 (bcase (decide ((((YO.i y:Nat):Int):Int) < 150))
 ((((0:Int) <= ((YO.i y:Nat):Int))/\
 ((((YO.i y:Nat):Int):Int) < (((List.length (evL l)):Nat):Int)))/\
 (∃ x0:Ev,(((AV.vptr (AV.cells (List.getD (evL l) (Int.toNat (↑(YO.i y):Int)) AV.undef))) = (AV.vptr [(AV.int .i64 (Ev.k x0)),(AV.int .i64 (Ev.i x0)),(AV.int .i64 (Ev.n x0)),(AV.int .i64 (T.k (Ev.t x0))),(AV.int .i64 (T.n (Ev.t x0))),(AV.str (T.s (Ev.t x0))),(AV.slice 4 (tcellL (T.l (Ev.t x0))) Cap.any)]))/\
 (bcase (((Ev.k x0):Int) == 3)
 (∃ c1:MH,(∃ M2:Nat,(∃ m3:RM,(∃ i4:Int,(∃ n5:Int,(([(AV.ptr (YO.M y) 0),(AV.int .i64 (Ev.i x0)),(AV.int .i64 (Ev.n x0))] = [(AV.ptr (M2) 0),(AV.int .i64 (i4)),(AV.int .i64 (n5))])/\
 (((At c1 (y.1))/\
 (MRep c1 M2 m3))/\
 (∀ c'6:MH,(∀ σ'7:State,(((At c'6 σ'7)/\
 ((MRep c'6 M2 (Prod.fst (RM.split m3 i4 n5)))/\
 (Frame' c1 c'6))) -> (∃ g8:GO,(∃ y9:YO,((Pc (g8) (y9))/\
 (((Rf (TV.l 1 0))/\
 (((TV.v (AV.ptr (YO.M y) 0)) = (TV.v (AV.ptr (YO.M y9) 0)))/\
 (((TV.v (AV.rslice (YO.ic y) 0 (YO.n y))) = (TV.v (AV.rslice (YO.ic y9) 0 (YO.n y9))))/\
 (((TV.v (AV.rslice (YO.ib y) 0 (YO.n y))) = (TV.v (AV.rslice (YO.ib y9) 0 (YO.n y9))))/\
 (((TV.v (AV.int .i64 ((YO.i y:Nat):Int))) = (TV.v (AV.int .i64 ((YO.i y9:Nat):Int))))/\
 ((Rf (TV.l 9 0))/\
 (((TV.v (AV.int .i64 (Prod.snd (Prod.snd (RM.split m3 i4 n5))))) = (TV.v (AV.int .i64 (GO.err g8))))/\
 (((TV.v (AV.slice 1 (intsV (Prod.fst (Prod.snd (RM.split m3 i4 n5)))) Cap.any)) = (TV.v (AV.slice 1 (intsV (GO.out g8)) Cap.any)))/\
 (((TV.v (AV.int .i64 (((List.length (intsV (Prod.fst (Prod.snd (RM.split m3 i4 n5))))):Nat):Int))) = (TV.v (AV.int .i64 (((List.length (intsV (GO.out g8))):Nat):Int))))/\
 (((TV.v (AV.int .i64 0)) = (TV.v (AV.int .i64 ((YO.j y9:Nat):Int))))/\
 ((Rf [(AV.int .i64 (N)),(AV.slice 7 (evL l) Cap.any)])/\
 (([(AV.int .i64 (Ev.k x0)),(AV.int .i64 (Ev.i x0)),(AV.int .i64 (Ev.n x0)),(AV.int .i64 (T.k (Ev.t x0))),(AV.int .i64 (T.n (Ev.t x0))),(AV.str (T.s (Ev.t x0))),(AV.slice 4 (tcellL (T.l (Ev.t x0))) Cap.any)] = [(AV.int .i64 (Ev.k (GO.e g8))),(AV.int .i64 (Ev.i (GO.e g8))),(AV.int .i64 (Ev.n (GO.e g8))),(AV.int .i64 (T.k (Ev.t (GO.e g8)))),(AV.int .i64 (T.n (Ev.t (GO.e g8)))),(AV.str (T.s (Ev.t (GO.e g8)))),(AV.slice 4 (tcellL (T.l (Ev.t (GO.e g8)))) Cap.any)])/\
 (State.Le (y9.1) σ'7)))))))))))))/\
 (∀ y'10:YO,((Rc (g8) (y'10)) -> (∃ x'11:YO,(((I (x'11))/\
 (((LS.μ (ls10b N l I) x'11):Nat) < (LS.μ (ls10b N l I) y)))/\
 ((Rf (TV.l 1 0))/\
 (((TV.v (AV.ptr (YO.M y'10) 0)) = (TV.v (AV.ptr (YO.M x'11) 0)))/\
 (((TV.v (AV.rslice (YO.ic y'10) 0 (YO.n y'10))) = (TV.v (AV.rslice (YO.ic x'11) 0 (YO.n x'11))))/\
 (((TV.v (AV.rslice (YO.ib y'10) 0 (YO.n y'10))) = (TV.v (AV.rslice (YO.ib x'11) 0 (YO.n x'11))))/\
 (((TV.v (AV.int .i64 (IntKind.wrap .i64 (((YO.i y'10:Nat):Int) + 1)))) = (TV.v (AV.int .i64 ((YO.i x'11:Nat):Int))))/\
 ((Rf [(AV.int .i64 (N)),(AV.slice 7 (evL l) Cap.any)])/\
 (State.Le ((ls10b N l I).3 x'11) (y'10.1))))))))))))))))))))))))))
 (∃ c1:MH,(∃ M2:Nat,(∃ m3:RM,(∃ e4:Ev,(([(AV.ptr (YO.M y) 0),(AV.agg [(AV.int .i64 (Ev.k x0)),(AV.int .i64 (Ev.i x0)),(AV.int .i64 (Ev.n x0)),(AV.int .i64 (T.k (Ev.t x0))),(AV.int .i64 (T.n (Ev.t x0))),(AV.str (T.s (Ev.t x0))),(AV.slice 4 (tcellL (T.l (Ev.t x0))) Cap.any)])] = [(AV.ptr (M2) 0),(AV.agg [(AV.int .i64 (Ev.k e4)),(AV.int .i64 (Ev.i e4)),(AV.int .i64 (Ev.n e4)),(AV.int .i64 (T.k (Ev.t e4))),(AV.int .i64 (T.n (Ev.t e4))),(AV.str (T.s (Ev.t e4))),(AV.slice 4 (tcellL (T.l (Ev.t e4))) Cap.any)])])/\
 (((At c1 (y.1))/\
 ((MRep c1 M2 m3)/\
 (XT c1)))/\
 (∀ c'5:MH,(∀ σ'6:State,(((At c'5 σ'6)/\
 ((MRep c'5 M2 (Prod.fst (RM.do m3 e4)))/\
 (Frame' c1 c'5))) -> (bcase (((Ev.k x0):Int) == 1)
 (bcase (((Prod.snd (Prod.snd (RM.do m3 e4))):Int) == 0)
 (bcase (decide (((Ev.i x0):Int) < 0))
 False
 (bcase (decide (((Ev.i x0):Int) ≥ ((YO.n y:Nat):Int)))
 False
 ((∃ a7:OE,(((State.objs σ'6 (YO.ic y)) = (AObj.cells (OE.cs a7) 23 1 (OE.g a7)))/\
 ((((0:Int) <= (Ev.i x0))/\
 (((Ev.i x0):Int) < ((YO.n y:Nat):Int)))/\
 (∃ a8:OE,(((State.objs σ'6 (YO.ic y)) = (AObj.cells (OE.cs a8) 23 1 (OE.g a8)))/\
 (((((0 + (Int.toNat (Ev.i x0))) * 1):Nat) < (List.length (OE.cs a8)))/\
 ((((List.getD (OE.cs a8) ((0 + Int.toNat (Ev.i x0)) * 1) AV.undef) = AV.nilslice)/\
 ((((56:Nat) <= 140737488355328)/\
 ((1:Nat) <= 4611686018427387904))/\
 (∃ a9:OE,(((State.objs (State.new σ'6 (AObj.cells [(AV.int .i64 (T.k (Ev.t x0))),(AV.int .i64 (T.n (Ev.t x0))),(AV.str (T.s (Ev.t x0))),(AV.slice 4 (tcellL (T.l (Ev.t x0))) Cap.any)] 37 4 true)) (YO.ic y)) = (AObj.cells (OE.cs a9) 23 1 (OE.g a9)))/\
 ((((0:Int) <= (Ev.i x0))/\
 (((Ev.i x0):Int) < ((YO.n y:Nat):Int)))/\
 ((Rf (TV.v (AV.rslice (YO.ic y) 0 (YO.n y))))/\
 ((Rf (TV.l 9 1))/\
 ((Rf (TV.v (AV.int .i64 (Ev.i x0))))/\
 (∃ a10:OE,(((State.objs (State.new σ'6 (AObj.cells [(AV.int .i64 (T.k (Ev.t x0))),(AV.int .i64 (T.n (Ev.t x0))),(AV.str (T.s (Ev.t x0))),(AV.slice 4 (tcellL (T.l (Ev.t x0))) Cap.any)] 37 4 true)) (YO.ic y)) = (AObj.cells (OE.cs a10) 23 1 (OE.g a10)))/\
 ((((((0 + (Int.toNat (Ev.i x0))) * 1) + 1):Nat) <= (List.length (OE.cs a10)))/\
 (∃ x11:List (Nat × T),(∃ y12:YO,((Pd (x11) (y12))/\
 (((Rf (TV.l 1 0))/\
 (((TV.v (AV.ptr (YO.M y) 0)) = (TV.v (AV.ptr (YO.M y12) 0)))/\
 (((TV.v (AV.rslice (YO.ic y) 0 (YO.n y))) = (TV.v (AV.rslice (YO.ic y12) 0 (YO.n y12))))/\
 (((TV.v (AV.rslice (YO.ib y) 0 (YO.n y))) = (TV.v (AV.rslice (YO.ib y12) 0 (YO.n y12))))/\
 (((TV.v (AV.int .i64 ((YO.i y:Nat):Int))) = (TV.v (AV.int .i64 ((YO.i y12:Nat):Int))))/\
 (((TV.v (AV.slice 5 (List.map itemC (Prod.fst (Prod.snd (RM.do m3 e4)))) Cap.any)) = (TV.v (AV.slice 5 (itemsO x11) Cap.any)))/\
 (((TV.v (AV.int .i64 (((List.length (List.map itemC (Prod.fst (Prod.snd (RM.do m3 e4))))):Nat):Int))) = (TV.v (AV.int .i64 (((List.length (itemsO x11)):Nat):Int))))/\
 (((TV.v (AV.int .i64 0)) = (TV.v (AV.int .i64 ((YO.j y12:Nat):Int))))/\
 ((Rf [(AV.int .i64 (N)),(AV.slice 7 (evL l) Cap.any)])/\
 (State.Le (y12.1) (State.set (State.new σ'6 (AObj.cells [(AV.int .i64 (T.k (Ev.t x0))),(AV.int .i64 (T.n (Ev.t x0))),(AV.str (T.s (Ev.t x0))),(AV.slice 4 (tcellL (T.l (Ev.t x0))) Cap.any)] 37 4 true)) (YO.ic y) (AObj.cells (asplice (OE.cs a10) ((0 + (Int.toNat (Ev.i x0))) * 1) [(AV.rslice (State.next σ'6) 0 1)]) 23 1 (OE.g a10)))))))))))))/\
 (∀ y'13:YO,((Rd (x11) (y'13)) -> (∃ x'14:YO,(((I (x'14))/\
 (((LS.μ (ls10b N l I) x'14):Nat) < (LS.μ (ls10b N l I) y)))/\
 ((Rf (TV.l 1 0))/\
 (((TV.v (AV.ptr (YO.M y'13) 0)) = (TV.v (AV.ptr (YO.M x'14) 0)))/\
 (((TV.v (AV.rslice (YO.ic y'13) 0 (YO.n y'13))) = (TV.v (AV.rslice (YO.ic x'14) 0 (YO.n x'14))))/\
 (((TV.v (AV.rslice (YO.ib y'13) 0 (YO.n y'13))) = (TV.v (AV.rslice (YO.ib x'14) 0 (YO.n x'14))))/\
 (((TV.v (AV.int .i64 (IntKind.wrap .i64 (((YO.i y'13:Nat):Int) + 1)))) = (TV.v (AV.int .i64 ((YO.i x'14:Nat):Int))))/\
 ((Rf [(AV.int .i64 (N)),(AV.slice 7 (evL l) Cap.any)])/\
 (State.Le ((ls10b N l I).3 x'14) (y'13.1))))))))))))))))))))))))))) \/ (∃ x9:RSo,(((List.getD (OE.cs a8) ((0 + Int.toNat (Ev.i x0)) * 1) AV.undef) = (AV.rslice (RSo.id x9) (RSo.off x9) (RSo.n x9)))/\
 (∃ a10:OE,(((State.objs σ'6 (RSo.id x9)) = (AObj.cells (OE.cs a10) 37 4 (OE.g a10)))/\
 ((((((((RSo.n x9) + 1) * 56):Nat) <= 140737488355328)/\
 ((((RSo.n x9) + 1):Nat) <= 4611686018427387904))/\
 (((((RSo.off x9) + (RSo.n x9)) * 4):Nat) <= (List.length (OE.cs a10))))/\
 ((∃ a11:OE,(((State.objs (State.new (State.set σ'6 (RSo.id x9) AObj.dead) (AObj.cells ((List.take (((RSo.off x9) + (RSo.n x9)) * 4) (OE.cs a10)) ++ [(AV.int .i64 (T.k (Ev.t x0))),(AV.int .i64 (T.n (Ev.t x0))),(AV.str (T.s (Ev.t x0))),(AV.slice 4 (tcellL (T.l (Ev.t x0))) Cap.any)]) 37 4 true)) (YO.ic y)) = (AObj.cells (OE.cs a11) 23 1 (OE.g a11)))/\
 ((((0:Int) <= (Ev.i x0))/\
 (((Ev.i x0):Int) < ((YO.n y:Nat):Int)))/\
 ((Rf (TV.v (AV.rslice (YO.ic y) 0 (YO.n y))))/\
 ((Rf (TV.l 9 1))/\
 ((Rf (TV.v (AV.int .i64 (Ev.i x0))))/\
 (∃ a12:OE,(((State.objs (State.new (State.set σ'6 (RSo.id x9) AObj.dead) (AObj.cells ((List.take (((RSo.off x9) + (RSo.n x9)) * 4) (OE.cs a10)) ++ [(AV.int .i64 (T.k (Ev.t x0))),(AV.int .i64 (T.n (Ev.t x0))),(AV.str (T.s (Ev.t x0))),(AV.slice 4 (tcellL (T.l (Ev.t x0))) Cap.any)]) 37 4 true)) (YO.ic y)) = (AObj.cells (OE.cs a12) 23 1 (OE.g a12)))/\
 ((((((0 + (Int.toNat (Ev.i x0))) * 1) + 1):Nat) <= (List.length (OE.cs a12)))/\
 (∃ x13:List (Nat × T),(∃ y14:YO,((Pd (x13) (y14))/\
 (((Rf (TV.l 1 0))/\
 (((TV.v (AV.ptr (YO.M y) 0)) = (TV.v (AV.ptr (YO.M y14) 0)))/\
 (((TV.v (AV.rslice (YO.ic y) 0 (YO.n y))) = (TV.v (AV.rslice (YO.ic y14) 0 (YO.n y14))))/\
 (((TV.v (AV.rslice (YO.ib y) 0 (YO.n y))) = (TV.v (AV.rslice (YO.ib y14) 0 (YO.n y14))))/\
 (((TV.v (AV.int .i64 ((YO.i y:Nat):Int))) = (TV.v (AV.int .i64 ((YO.i y14:Nat):Int))))/\
 (((TV.v (AV.slice 5 (List.map itemC (Prod.fst (Prod.snd (RM.do m3 e4)))) Cap.any)) = (TV.v (AV.slice 5 (itemsO x13) Cap.any)))/\
 (((TV.v (AV.int .i64 (((List.length (List.map itemC (Prod.fst (Prod.snd (RM.do m3 e4))))):Nat):Int))) = (TV.v (AV.int .i64 (((List.length (itemsO x13)):Nat):Int))))/\
 (((TV.v (AV.int .i64 0)) = (TV.v (AV.int .i64 ((YO.j y14:Nat):Int))))/\
 ((Rf [(AV.int .i64 (N)),(AV.slice 7 (evL l) Cap.any)])/\
 (State.Le (y14.1) (State.set (State.new (State.set σ'6 (RSo.id x9) AObj.dead) (AObj.cells ((List.take (((RSo.off x9) + (RSo.n x9)) * 4) (OE.cs a10)) ++ [(AV.int .i64 (T.k (Ev.t x0))),(AV.int .i64 (T.n (Ev.t x0))),(AV.str (T.s (Ev.t x0))),(AV.slice 4 (tcellL (T.l (Ev.t x0))) Cap.any)]) 37 4 true)) (YO.ic y) (AObj.cells (asplice (OE.cs a12) ((0 + (Int.toNat (Ev.i x0))) * 1) [(AV.rslice (State.next σ'6) (RSo.off x9) ((RSo.n x9) + 1))]) 23 1 (OE.g a12)))))))))))))/\
 (∀ y'15:YO,((Rd (x13) (y'15)) -> (∃ x'16:YO,(((I (x'16))/\
 (((LS.μ (ls10b N l I) x'16):Nat) < (LS.μ (ls10b N l I) y)))/\
 ((Rf (TV.l 1 0))/\
 (((TV.v (AV.ptr (YO.M y'15) 0)) = (TV.v (AV.ptr (YO.M x'16) 0)))/\
 (((TV.v (AV.rslice (YO.ic y'15) 0 (YO.n y'15))) = (TV.v (AV.rslice (YO.ic x'16) 0 (YO.n x'16))))/\
 (((TV.v (AV.rslice (YO.ib y'15) 0 (YO.n y'15))) = (TV.v (AV.rslice (YO.ib x'16) 0 (YO.n x'16))))/\
 (((TV.v (AV.int .i64 (IntKind.wrap .i64 (((YO.i y'15:Nat):Int) + 1)))) = (TV.v (AV.int .i64 ((YO.i x'16:Nat):Int))))/\
 ((Rf [(AV.int .i64 (N)),(AV.slice 7 (evL l) Cap.any)])/\
 (State.Le ((ls10b N l I).3 x'16) (y'15.1)))))))))))))))))))))))))/\
 (∃ a11:OE,(((State.objs (State.new (State.set σ'6 (RSo.id x9) AObj.dead) (AObj.cells ((List.take ((RSo.n x9) * 4) (List.drop ((RSo.off x9) * 4) (OE.cs a10))) ++ [(AV.int .i64 (T.k (Ev.t x0))),(AV.int .i64 (T.n (Ev.t x0))),(AV.str (T.s (Ev.t x0))),(AV.slice 4 (tcellL (T.l (Ev.t x0))) Cap.any)]) 37 4 true)) (YO.ic y)) = (AObj.cells (OE.cs a11) 23 1 (OE.g a11)))/\
 ((((0:Int) <= (Ev.i x0))/\
 (((Ev.i x0):Int) < ((YO.n y:Nat):Int)))/\
 ((Rf (TV.v (AV.rslice (YO.ic y) 0 (YO.n y))))/\
 ((Rf (TV.l 9 1))/\
 ((Rf (TV.v (AV.int .i64 (Ev.i x0))))/\
 (∃ a12:OE,(((State.objs (State.new (State.set σ'6 (RSo.id x9) AObj.dead) (AObj.cells ((List.take ((RSo.n x9) * 4) (List.drop ((RSo.off x9) * 4) (OE.cs a10))) ++ [(AV.int .i64 (T.k (Ev.t x0))),(AV.int .i64 (T.n (Ev.t x0))),(AV.str (T.s (Ev.t x0))),(AV.slice 4 (tcellL (T.l (Ev.t x0))) Cap.any)]) 37 4 true)) (YO.ic y)) = (AObj.cells (OE.cs a12) 23 1 (OE.g a12)))/\
 ((((((0 + (Int.toNat (Ev.i x0))) * 1) + 1):Nat) <= (List.length (OE.cs a12)))/\
 (∃ x13:List (Nat × T),(∃ y14:YO,((Pd (x13) (y14))/\
 (((Rf (TV.l 1 0))/\
 (((TV.v (AV.ptr (YO.M y) 0)) = (TV.v (AV.ptr (YO.M y14) 0)))/\
 (((TV.v (AV.rslice (YO.ic y) 0 (YO.n y))) = (TV.v (AV.rslice (YO.ic y14) 0 (YO.n y14))))/\
 (((TV.v (AV.rslice (YO.ib y) 0 (YO.n y))) = (TV.v (AV.rslice (YO.ib y14) 0 (YO.n y14))))/\
 (((TV.v (AV.int .i64 ((YO.i y:Nat):Int))) = (TV.v (AV.int .i64 ((YO.i y14:Nat):Int))))/\
 (((TV.v (AV.slice 5 (List.map itemC (Prod.fst (Prod.snd (RM.do m3 e4)))) Cap.any)) = (TV.v (AV.slice 5 (itemsO x13) Cap.any)))/\
 (((TV.v (AV.int .i64 (((List.length (List.map itemC (Prod.fst (Prod.snd (RM.do m3 e4))))):Nat):Int))) = (TV.v (AV.int .i64 (((List.length (itemsO x13)):Nat):Int))))/\
 (((TV.v (AV.int .i64 0)) = (TV.v (AV.int .i64 ((YO.j y14:Nat):Int))))/\
 ((Rf [(AV.int .i64 (N)),(AV.slice 7 (evL l) Cap.any)])/\
 (State.Le (y14.1) (State.set (State.new (State.set σ'6 (RSo.id x9) AObj.dead) (AObj.cells ((List.take ((RSo.n x9) * 4) (List.drop ((RSo.off x9) * 4) (OE.cs a10))) ++ [(AV.int .i64 (T.k (Ev.t x0))),(AV.int .i64 (T.n (Ev.t x0))),(AV.str (T.s (Ev.t x0))),(AV.slice 4 (tcellL (T.l (Ev.t x0))) Cap.any)]) 37 4 true)) (YO.ic y) (AObj.cells (asplice (OE.cs a12) ((0 + (Int.toNat (Ev.i x0))) * 1) [(AV.rslice (State.next σ'6) 0 ((RSo.n x9) + 1))]) 23 1 (OE.g a12)))))))))))))/\
 (∀ y'15:YO,((Rd (x13) (y'15)) -> (∃ x'16:YO,(((I (x'16))/\
 (((LS.μ (ls10b N l I) x'16):Nat) < (LS.μ (ls10b N l I) y)))/\
 ((Rf (TV.l 1 0))/\
 (((TV.v (AV.ptr (YO.M y'15) 0)) = (TV.v (AV.ptr (YO.M x'16) 0)))/\
 (((TV.v (AV.rslice (YO.ic y'15) 0 (YO.n y'15))) = (TV.v (AV.rslice (YO.ic x'16) 0 (YO.n x'16))))/\
 (((TV.v (AV.rslice (YO.ib y'15) 0 (YO.n y'15))) = (TV.v (AV.rslice (YO.ib x'16) 0 (YO.n x'16))))/\
 (((TV.v (AV.int .i64 (IntKind.wrap .i64 (((YO.i y'15:Nat):Int) + 1)))) = (TV.v (AV.int .i64 ((YO.i x'16:Nat):Int))))/\
 ((Rf [(AV.int .i64 (N)),(AV.slice 7 (evL l) Cap.any)])/\
 (State.Le ((ls10b N l I).3 x'16) (y'15.1))))))))))))))))))))))))))))))))))))))/\
 (∃ a7:OE,(((State.objs σ'6 (YO.ic y)) = (AObj.cells (OE.cs a7) 23 1 (OE.g a7)))/\
 ((((0:Int) <= (Ev.i x0))/\
 (((Ev.i x0):Int) < ((YO.n y:Nat):Int)))/\
 (∃ a8:OE,(((State.objs σ'6 (YO.ic y)) = (AObj.cells (OE.cs a8) 23 1 (OE.g a8)))/\
 (((((0 + (Int.toNat (Ev.i x0))) * 1):Nat) < (List.length (OE.cs a8)))/\
 ((((List.getD (OE.cs a8) ((0 + Int.toNat (Ev.i x0)) * 1) AV.undef) = AV.nilslice)/\
 ((((56:Nat) <= 140737488355328)/\
 ((1:Nat) <= 4611686018427387904))/\
 (∃ a9:OE,(((State.objs (State.new σ'6 (AObj.cells [(AV.int .i64 0),(AV.int .i64 0),(AV.str ⟨⟨[]⟩⟩),AV.nilslice] 37 4 true)) (YO.ic y)) = (AObj.cells (OE.cs a9) 23 1 (OE.g a9)))/\
 ((((0:Int) <= (Ev.i x0))/\
 (((Ev.i x0):Int) < ((YO.n y:Nat):Int)))/\
 (∃ a10:OE,(((State.objs (State.new σ'6 (AObj.cells [(AV.int .i64 0),(AV.int .i64 0),(AV.str ⟨⟨[]⟩⟩),AV.nilslice] 37 4 true)) (YO.ic y)) = (AObj.cells (OE.cs a10) 23 1 (OE.g a10)))/\
 ((((((0 + (Int.toNat (Ev.i x0))) * 1) + 1):Nat) <= (List.length (OE.cs a10)))/\
 (∃ a11:OE,(((State.objs (State.set (State.new σ'6 (AObj.cells [(AV.int .i64 0),(AV.int .i64 0),(AV.str ⟨⟨[]⟩⟩),AV.nilslice] 37 4 true)) (YO.ic y) (AObj.cells (asplice (OE.cs a10) ((0 + (Int.toNat (Ev.i x0))) * 1) [(AV.rslice (State.next σ'6) 0 1)]) 23 1 (OE.g a10))) (State.next σ'6)) = (AObj.cells (OE.cs a11) 37 4 (OE.g a11)))/\
 ((((0:Int) <= 0)/\
 ((0:Int) < 1))/\
 (∃ a12:OE,(((State.objs (State.set (State.new σ'6 (AObj.cells [(AV.int .i64 0),(AV.int .i64 0),(AV.str ⟨⟨[]⟩⟩),AV.nilslice] 37 4 true)) (YO.ic y) (AObj.cells (asplice (OE.cs a10) ((0 + (Int.toNat (Ev.i x0))) * 1) [(AV.rslice (State.next σ'6) 0 1)]) 23 1 (OE.g a10))) (State.next σ'6)) = (AObj.cells (OE.cs a12) 37 4 (OE.g a12)))/\
 (((4:Nat) <= (List.length (OE.cs a12)))/\
 (∃ x13:List (Nat × T),(∃ y14:YO,((Pd (x13) (y14))/\
 (((Rf (TV.l 1 0))/\
 (((TV.v (AV.ptr (YO.M y) 0)) = (TV.v (AV.ptr (YO.M y14) 0)))/\
 (((TV.v (AV.rslice (YO.ic y) 0 (YO.n y))) = (TV.v (AV.rslice (YO.ic y14) 0 (YO.n y14))))/\
 (((TV.v (AV.rslice (YO.ib y) 0 (YO.n y))) = (TV.v (AV.rslice (YO.ib y14) 0 (YO.n y14))))/\
 (((TV.v (AV.int .i64 ((YO.i y:Nat):Int))) = (TV.v (AV.int .i64 ((YO.i y14:Nat):Int))))/\
 (((TV.v (AV.slice 5 (List.map itemC (Prod.fst (Prod.snd (RM.do m3 e4)))) Cap.any)) = (TV.v (AV.slice 5 (itemsO x13) Cap.any)))/\
 (((TV.v (AV.int .i64 (((List.length (List.map itemC (Prod.fst (Prod.snd (RM.do m3 e4))))):Nat):Int))) = (TV.v (AV.int .i64 (((List.length (itemsO x13)):Nat):Int))))/\
 (((TV.v (AV.int .i64 0)) = (TV.v (AV.int .i64 ((YO.j y14:Nat):Int))))/\
 ((Rf [(AV.int .i64 (N)),(AV.slice 7 (evL l) Cap.any)])/\
 (State.Le (y14.1) (State.set (State.set (State.new σ'6 (AObj.cells [(AV.int .i64 0),(AV.int .i64 0),(AV.str ⟨⟨[]⟩⟩),AV.nilslice] 37 4 true)) (YO.ic y) (AObj.cells (asplice (OE.cs a10) ((0 + (Int.toNat (Ev.i x0))) * 1) [(AV.rslice (State.next σ'6) 0 1)]) 23 1 (OE.g a10))) (State.next σ'6) (AObj.cells (asplice (OE.cs a12) 0 [(AV.int .i64 (T.k (Ev.t x0))),(AV.int .i64 (T.n (Ev.t x0))),(AV.str (T.s (Ev.t x0))),(AV.slice 4 (tcellL (T.l (Ev.t x0))) Cap.any)]) 37 4 (OE.g a12)))))))))))))/\
 (∀ y'15:YO,((Rd (x13) (y'15)) -> (∃ x'16:YO,(((I (x'16))/\
 (((LS.μ (ls10b N l I) x'16):Nat) < (LS.μ (ls10b N l I) y)))/\
 ((Rf (TV.l 1 0))/\
 (((TV.v (AV.ptr (YO.M y'15) 0)) = (TV.v (AV.ptr (YO.M x'16) 0)))/\
 (((TV.v (AV.rslice (YO.ic y'15) 0 (YO.n y'15))) = (TV.v (AV.rslice (YO.ic x'16) 0 (YO.n x'16))))/\
 (((TV.v (AV.rslice (YO.ib y'15) 0 (YO.n y'15))) = (TV.v (AV.rslice (YO.ib x'16) 0 (YO.n x'16))))/\
 (((TV.v (AV.int .i64 (IntKind.wrap .i64 (((YO.i y'15:Nat):Int) + 1)))) = (TV.v (AV.int .i64 ((YO.i x'16:Nat):Int))))/\
 ((Rf [(AV.int .i64 (N)),(AV.slice 7 (evL l) Cap.any)])/\
 (State.Le ((ls10b N l I).3 x'16) (y'15.1)))))))))))))))))))))))))))))) \/ (∃ x9:RSo,(((List.getD (OE.cs a8) ((0 + Int.toNat (Ev.i x0)) * 1) AV.undef) = (AV.rslice (RSo.id x9) (RSo.off x9) (RSo.n x9)))/\
 (∃ a10:OE,(((State.objs σ'6 (RSo.id x9)) = (AObj.cells (OE.cs a10) 37 4 (OE.g a10)))/\
 ((((((((RSo.n x9) + 1) * 56):Nat) <= 140737488355328)/\
 ((((RSo.n x9) + 1):Nat) <= 4611686018427387904))/\
 (((((RSo.off x9) + (RSo.n x9)) * 4):Nat) <= (List.length (OE.cs a10))))/\
 ((∃ a11:OE,(((State.objs (State.new (State.set σ'6 (RSo.id x9) AObj.dead) (AObj.cells ((List.take (((RSo.off x9) + (RSo.n x9)) * 4) (OE.cs a10)) ++ [(AV.int .i64 0),(AV.int .i64 0),(AV.str ⟨⟨[]⟩⟩),AV.nilslice]) 37 4 true)) (YO.ic y)) = (AObj.cells (OE.cs a11) 23 1 (OE.g a11)))/\
 ((((0:Int) <= (Ev.i x0))/\
 (((Ev.i x0):Int) < ((YO.n y:Nat):Int)))/\
 (∃ a12:OE,(((State.objs (State.new (State.set σ'6 (RSo.id x9) AObj.dead) (AObj.cells ((List.take (((RSo.off x9) + (RSo.n x9)) * 4) (OE.cs a10)) ++ [(AV.int .i64 0),(AV.int .i64 0),(AV.str ⟨⟨[]⟩⟩),AV.nilslice]) 37 4 true)) (YO.ic y)) = (AObj.cells (OE.cs a12) 23 1 (OE.g a12)))/\
 ((((((0 + (Int.toNat (Ev.i x0))) * 1) + 1):Nat) <= (List.length (OE.cs a12)))/\
 (∃ a13:OE,(((State.objs (State.set (State.new (State.set σ'6 (RSo.id x9) AObj.dead) (AObj.cells ((List.take (((RSo.off x9) + (RSo.n x9)) * 4) (OE.cs a10)) ++ [(AV.int .i64 0),(AV.int .i64 0),(AV.str ⟨⟨[]⟩⟩),AV.nilslice]) 37 4 true)) (YO.ic y) (AObj.cells (asplice (OE.cs a12) ((0 + (Int.toNat (Ev.i x0))) * 1) [(AV.rslice (State.next σ'6) (RSo.off x9) ((RSo.n x9) + 1))]) 23 1 (OE.g a12))) (State.next σ'6)) = (AObj.cells (OE.cs a13) 37 4 (OE.g a13)))/\
 ((((0:Int) <= ((RSo.n x9:Nat):Int))/\
 ((((RSo.n x9:Nat):Int):Int) < ((((RSo.n x9) + 1):Nat):Int)))/\
 (∃ a14:OE,(((State.objs (State.set (State.new (State.set σ'6 (RSo.id x9) AObj.dead) (AObj.cells ((List.take (((RSo.off x9) + (RSo.n x9)) * 4) (OE.cs a10)) ++ [(AV.int .i64 0),(AV.int .i64 0),(AV.str ⟨⟨[]⟩⟩),AV.nilslice]) 37 4 true)) (YO.ic y) (AObj.cells (asplice (OE.cs a12) ((0 + (Int.toNat (Ev.i x0))) * 1) [(AV.rslice (State.next σ'6) (RSo.off x9) ((RSo.n x9) + 1))]) 23 1 (OE.g a12))) (State.next σ'6)) = (AObj.cells (OE.cs a14) 37 4 (OE.g a14)))/\
 (((((((RSo.off x9) + (Int.toNat ((RSo.n x9:Nat):Int))) * 4) + 4):Nat) <= (List.length (OE.cs a14)))/\
 (∃ x15:List (Nat × T),(∃ y16:YO,((Pd (x15) (y16))/\
 (((Rf (TV.l 1 0))/\
 (((TV.v (AV.ptr (YO.M y) 0)) = (TV.v (AV.ptr (YO.M y16) 0)))/\
 (((TV.v (AV.rslice (YO.ic y) 0 (YO.n y))) = (TV.v (AV.rslice (YO.ic y16) 0 (YO.n y16))))/\
 (((TV.v (AV.rslice (YO.ib y) 0 (YO.n y))) = (TV.v (AV.rslice (YO.ib y16) 0 (YO.n y16))))/\
 (((TV.v (AV.int .i64 ((YO.i y:Nat):Int))) = (TV.v (AV.int .i64 ((YO.i y16:Nat):Int))))/\
 (((TV.v (AV.slice 5 (List.map itemC (Prod.fst (Prod.snd (RM.do m3 e4)))) Cap.any)) = (TV.v (AV.slice 5 (itemsO x15) Cap.any)))/\
 (((TV.v (AV.int .i64 (((List.length (List.map itemC (Prod.fst (Prod.snd (RM.do m3 e4))))):Nat):Int))) = (TV.v (AV.int .i64 (((List.length (itemsO x15)):Nat):Int))))/\
 (((TV.v (AV.int .i64 0)) = (TV.v (AV.int .i64 ((YO.j y16:Nat):Int))))/\
 ((Rf [(AV.int .i64 (N)),(AV.slice 7 (evL l) Cap.any)])/\
 (State.Le (y16.1) (State.set (State.set (State.new (State.set σ'6 (RSo.id x9) AObj.dead) (AObj.cells ((List.take (((RSo.off x9) + (RSo.n x9)) * 4) (OE.cs a10)) ++ [(AV.int .i64 0),(AV.int .i64 0),(AV.str ⟨⟨[]⟩⟩),AV.nilslice]) 37 4 true)) (YO.ic y) (AObj.cells (asplice (OE.cs a12) ((0 + (Int.toNat (Ev.i x0))) * 1) [(AV.rslice (State.next σ'6) (RSo.off x9) ((RSo.n x9) + 1))]) 23 1 (OE.g a12))) (State.next σ'6) (AObj.cells (asplice (OE.cs a14) (((RSo.off x9) + (Int.toNat ((RSo.n x9:Nat):Int))) * 4) [(AV.int .i64 (T.k (Ev.t x0))),(AV.int .i64 (T.n (Ev.t x0))),(AV.str (T.s (Ev.t x0))),(AV.slice 4 (tcellL (T.l (Ev.t x0))) Cap.any)]) 37 4 (OE.g a14)))))))))))))/\
 (∀ y'17:YO,((Rd (x15) (y'17)) -> (∃ x'18:YO,(((I (x'18))/\
 (((LS.μ (ls10b N l I) x'18):Nat) < (LS.μ (ls10b N l I) y)))/\
 ((Rf (TV.l 1 0))/\
 (((TV.v (AV.ptr (YO.M y'17) 0)) = (TV.v (AV.ptr (YO.M x'18) 0)))/\
 (((TV.v (AV.rslice (YO.ic y'17) 0 (YO.n y'17))) = (TV.v (AV.rslice (YO.ic x'18) 0 (YO.n x'18))))/\
 (((TV.v (AV.rslice (YO.ib y'17) 0 (YO.n y'17))) = (TV.v (AV.rslice (YO.ib x'18) 0 (YO.n x'18))))/\
 (((TV.v (AV.int .i64 (IntKind.wrap .i64 (((YO.i y'17:Nat):Int) + 1)))) = (TV.v (AV.int .i64 ((YO.i x'18:Nat):Int))))/\
 ((Rf [(AV.int .i64 (N)),(AV.slice 7 (evL l) Cap.any)])/\
 (State.Le ((ls10b N l I).3 x'18) (y'17.1))))))))))))))))))))))))))))/\
 (∃ a11:OE,(((State.objs (State.new (State.set σ'6 (RSo.id x9) AObj.dead) (AObj.cells ((List.take ((RSo.n x9) * 4) (List.drop ((RSo.off x9) * 4) (OE.cs a10))) ++ [(AV.int .i64 0),(AV.int .i64 0),(AV.str ⟨⟨[]⟩⟩),AV.nilslice]) 37 4 true)) (YO.ic y)) = (AObj.cells (OE.cs a11) 23 1 (OE.g a11)))/\
 ((((0:Int) <= (Ev.i x0))/\
 (((Ev.i x0):Int) < ((YO.n y:Nat):Int)))/\
 (∃ a12:OE,(((State.objs (State.new (State.set σ'6 (RSo.id x9) AObj.dead) (AObj.cells ((List.take ((RSo.n x9) * 4) (List.drop ((RSo.off x9) * 4) (OE.cs a10))) ++ [(AV.int .i64 0),(AV.int .i64 0),(AV.str ⟨⟨[]⟩⟩),AV.nilslice]) 37 4 true)) (YO.ic y)) = (AObj.cells (OE.cs a12) 23 1 (OE.g a12)))/\
 ((((((0 + (Int.toNat (Ev.i x0))) * 1) + 1):Nat) <= (List.length (OE.cs a12)))/\
 (∃ a13:OE,(((State.objs (State.set (State.new (State.set σ'6 (RSo.id x9) AObj.dead) (AObj.cells ((List.take ((RSo.n x9) * 4) (List.drop ((RSo.off x9) * 4) (OE.cs a10))) ++ [(AV.int .i64 0),(AV.int .i64 0),(AV.str ⟨⟨[]⟩⟩),AV.nilslice]) 37 4 true)) (YO.ic y) (AObj.cells (asplice (OE.cs a12) ((0 + (Int.toNat (Ev.i x0))) * 1) [(AV.rslice (State.next σ'6) 0 ((RSo.n x9) + 1))]) 23 1 (OE.g a12))) (State.next σ'6)) = (AObj.cells (OE.cs a13) 37 4 (OE.g a13)))/\
 ((((0:Int) <= ((RSo.n x9:Nat):Int))/\
 ((((RSo.n x9:Nat):Int):Int) < ((((RSo.n x9) + 1):Nat):Int)))/\
 (∃ a14:OE,(((State.objs (State.set (State.new (State.set σ'6 (RSo.id x9) AObj.dead) (AObj.cells ((List.take ((RSo.n x9) * 4) (List.drop ((RSo.off x9) * 4) (OE.cs a10))) ++ [(AV.int .i64 0),(AV.int .i64 0),(AV.str ⟨⟨[]⟩⟩),AV.nilslice]) 37 4 true)) (YO.ic y) (AObj.cells (asplice (OE.cs a12) ((0 + (Int.toNat (Ev.i x0))) * 1) [(AV.rslice (State.next σ'6) 0 ((RSo.n x9) + 1))]) 23 1 (OE.g a12))) (State.next σ'6)) = (AObj.cells (OE.cs a14) 37 4 (OE.g a14)))/\
 ((((((0 + (Int.toNat ((RSo.n x9:Nat):Int))) * 4) + 4):Nat) <= (List.length (OE.cs a14)))/\
 (∃ x15:List (Nat × T),(∃ y16:YO,((Pd (x15) (y16))/\
 (((Rf (TV.l 1 0))/\
 (((TV.v (AV.ptr (YO.M y) 0)) = (TV.v (AV.ptr (YO.M y16) 0)))/\
 (((TV.v (AV.rslice (YO.ic y) 0 (YO.n y))) = (TV.v (AV.rslice (YO.ic y16) 0 (YO.n y16))))/\
 (((TV.v (AV.rslice (YO.ib y) 0 (YO.n y))) = (TV.v (AV.rslice (YO.ib y16) 0 (YO.n y16))))/\
 (((TV.v (AV.int .i64 ((YO.i y:Nat):Int))) = (TV.v (AV.int .i64 ((YO.i y16:Nat):Int))))/\
 (((TV.v (AV.slice 5 (List.map itemC (Prod.fst (Prod.snd (RM.do m3 e4)))) Cap.any)) = (TV.v (AV.slice 5 (itemsO x15) Cap.any)))/\
 (((TV.v (AV.int .i64 (((List.length (List.map itemC (Prod.fst (Prod.snd (RM.do m3 e4))))):Nat):Int))) = (TV.v (AV.int .i64 (((List.length (itemsO x15)):Nat):Int))))/\
 (((TV.v (AV.int .i64 0)) = (TV.v (AV.int .i64 ((YO.j y16:Nat):Int))))/\
 ((Rf [(AV.int .i64 (N)),(AV.slice 7 (evL l) Cap.any)])/\
 (State.Le (y16.1) (State.set (State.set (State.new (State.set σ'6 (RSo.id x9) AObj.dead) (AObj.cells ((List.take ((RSo.n x9) * 4) (List.drop ((RSo.off x9) * 4) (OE.cs a10))) ++ [(AV.int .i64 0),(AV.int .i64 0),(AV.str ⟨⟨[]⟩⟩),AV.nilslice]) 37 4 true)) (YO.ic y) (AObj.cells (asplice (OE.cs a12) ((0 + (Int.toNat (Ev.i x0))) * 1) [(AV.rslice (State.next σ'6) 0 ((RSo.n x9) + 1))]) 23 1 (OE.g a12))) (State.next σ'6) (AObj.cells (asplice (OE.cs a14) ((0 + (Int.toNat ((RSo.n x9:Nat):Int))) * 4) [(AV.int .i64 (T.k (Ev.t x0))),(AV.int .i64 (T.n (Ev.t x0))),(AV.str (T.s (Ev.t x0))),(AV.slice 4 (tcellL (T.l (Ev.t x0))) Cap.any)]) 37 4 (OE.g a14)))))))))))))/\
 (∀ y'17:YO,((Rd (x15) (y'17)) -> (∃ x'18:YO,(((I (x'18))/\
 (((LS.μ (ls10b N l I) x'18):Nat) < (LS.μ (ls10b N l I) y)))/\
 ((Rf (TV.l 1 0))/\
 (((TV.v (AV.ptr (YO.M y'17) 0)) = (TV.v (AV.ptr (YO.M x'18) 0)))/\
 (((TV.v (AV.rslice (YO.ic y'17) 0 (YO.n y'17))) = (TV.v (AV.rslice (YO.ic x'18) 0 (YO.n x'18))))/\
 (((TV.v (AV.rslice (YO.ib y'17) 0 (YO.n y'17))) = (TV.v (AV.rslice (YO.ib x'18) 0 (YO.n x'18))))/\
 (((TV.v (AV.int .i64 (IntKind.wrap .i64 (((YO.i y'17:Nat):Int) + 1)))) = (TV.v (AV.int .i64 ((YO.i x'18:Nat):Int))))/\
 ((Rf [(AV.int .i64 (N)),(AV.slice 7 (evL l) Cap.any)])/\
 (State.Le ((ls10b N l I).3 x'18) (y'17.1))))))))))))))))))))))))))))))))))))))))))))
 (∃ x7:List (Nat × T),(∃ y8:YO,((Pd (x7) (y8))/\
 (((Rf (TV.l 1 0))/\
 (((TV.v (AV.ptr (YO.M y) 0)) = (TV.v (AV.ptr (YO.M y8) 0)))/\
 (((TV.v (AV.rslice (YO.ic y) 0 (YO.n y))) = (TV.v (AV.rslice (YO.ic y8) 0 (YO.n y8))))/\
 (((TV.v (AV.rslice (YO.ib y) 0 (YO.n y))) = (TV.v (AV.rslice (YO.ib y8) 0 (YO.n y8))))/\
 (((TV.v (AV.int .i64 ((YO.i y:Nat):Int))) = (TV.v (AV.int .i64 ((YO.i y8:Nat):Int))))/\
 (((TV.v (AV.slice 5 (List.map itemC (Prod.fst (Prod.snd (RM.do m3 e4)))) Cap.any)) = (TV.v (AV.slice 5 (itemsO x7) Cap.any)))/\
 (((TV.v (AV.int .i64 (((List.length (List.map itemC (Prod.fst (Prod.snd (RM.do m3 e4))))):Nat):Int))) = (TV.v (AV.int .i64 (((List.length (itemsO x7)):Nat):Int))))/\
 (((TV.v (AV.int .i64 0)) = (TV.v (AV.int .i64 ((YO.j y8:Nat):Int))))/\
 ((Rf [(AV.int .i64 (N)),(AV.slice 7 (evL l) Cap.any)])/\
 (State.Le (y8.1) σ'6))))))))))/\
 (∀ y'9:YO,((Rd (x7) (y'9)) -> (∃ x'10:YO,(((I (x'10))/\
 (((LS.μ (ls10b N l I) x'10):Nat) < (LS.μ (ls10b N l I) y)))/\
 ((Rf (TV.l 1 0))/\
 (((TV.v (AV.ptr (YO.M y'9) 0)) = (TV.v (AV.ptr (YO.M x'10) 0)))/\
 (((TV.v (AV.rslice (YO.ic y'9) 0 (YO.n y'9))) = (TV.v (AV.rslice (YO.ic x'10) 0 (YO.n x'10))))/\
 (((TV.v (AV.rslice (YO.ib y'9) 0 (YO.n y'9))) = (TV.v (AV.rslice (YO.ib x'10) 0 (YO.n x'10))))/\
 (((TV.v (AV.int .i64 (IntKind.wrap .i64 (((YO.i y'9:Nat):Int) + 1)))) = (TV.v (AV.int .i64 ((YO.i x'10:Nat):Int))))/\
 ((Rf [(AV.int .i64 (N)),(AV.slice 7 (evL l) Cap.any)])/\
 (State.Le ((ls10b N l I).3 x'10) (y'9.1)))))))))))))))))
 (∃ x7:List (Nat × T),(∃ y8:YO,((Pd (x7) (y8))/\
 (((Rf (TV.l 1 0))/\
 (((TV.v (AV.ptr (YO.M y) 0)) = (TV.v (AV.ptr (YO.M y8) 0)))/\
 (((TV.v (AV.rslice (YO.ic y) 0 (YO.n y))) = (TV.v (AV.rslice (YO.ic y8) 0 (YO.n y8))))/\
 (((TV.v (AV.rslice (YO.ib y) 0 (YO.n y))) = (TV.v (AV.rslice (YO.ib y8) 0 (YO.n y8))))/\
 (((TV.v (AV.int .i64 ((YO.i y:Nat):Int))) = (TV.v (AV.int .i64 ((YO.i y8:Nat):Int))))/\
 (((TV.v (AV.slice 5 (List.map itemC (Prod.fst (Prod.snd (RM.do m3 e4)))) Cap.any)) = (TV.v (AV.slice 5 (itemsO x7) Cap.any)))/\
 (((TV.v (AV.int .i64 (((List.length (List.map itemC (Prod.fst (Prod.snd (RM.do m3 e4))))):Nat):Int))) = (TV.v (AV.int .i64 (((List.length (itemsO x7)):Nat):Int))))/\
 (((TV.v (AV.int .i64 0)) = (TV.v (AV.int .i64 ((YO.j y8:Nat):Int))))/\
 ((Rf [(AV.int .i64 (N)),(AV.slice 7 (evL l) Cap.any)])/\
 (State.Le (y8.1) σ'6))))))))))/\
 (∀ y'9:YO,((Rd (x7) (y'9)) -> (∃ x'10:YO,(((I (x'10))/\
 (((LS.μ (ls10b N l I) x'10):Nat) < (LS.μ (ls10b N l I) y)))/\
 ((Rf (TV.l 1 0))/\
 (((TV.v (AV.ptr (YO.M y'9) 0)) = (TV.v (AV.ptr (YO.M x'10) 0)))/\
 (((TV.v (AV.rslice (YO.ic y'9) 0 (YO.n y'9))) = (TV.v (AV.rslice (YO.ic x'10) 0 (YO.n x'10))))/\
 (((TV.v (AV.rslice (YO.ib y'9) 0 (YO.n y'9))) = (TV.v (AV.rslice (YO.ib x'10) 0 (YO.n x'10))))/\
 (((TV.v (AV.int .i64 (IntKind.wrap .i64 (((YO.i y'9:Nat):Int) + 1)))) = (TV.v (AV.int .i64 ((YO.i x'10:Nat):Int))))/\
 ((Rf [(AV.int .i64 (N)),(AV.slice 7 (evL l) Cap.any)])/\
 (State.Le ((ls10b N l I).3 x'10) (y'9.1))))))))))))))))))))))))))))))
 True)
 True)):=by kernel_rfl
def T10b (N:Int) (l:List Ev) (I:YO -> Prop):LHand:=fun _ Q a σ => ∃ y:YO,I y /\ atF a (F10 y) (FL10 N l) (y.σ.Le σ) /\ ∀ σ',Q (.exit 2) (frm [] []) σ'
def H10 (E:Env):Hand:=hnd E annA noHints [(16,C16),(41,C41r)]
def N10:FnHint:=hAt [(8,2,Hint.s),(9,2,Hint.s)]
theorem vc10 (B:Nat) (w0:World) (G:Nat -> AV) (N:Int) (l:List Ev) (Ia Ra I:YO -> Prop) (Q:AV -> State -> Prop):(bodyX [] (EV B w0 G) (H10 (EV B w0 G)) (handL [(11,T10a N l Ia Ra),(16,T10b N l I)]) A10 N10 10 [.agg [.int .i64 N,.slice 7 (evL l) .any]] noObj Q) =
 (((([]:List AV) = [])/\
 (bcase (decide (((N):Int) < 0))
 (Q (AV.bool true) (State.untok (noObj)))
 (bcase (decide (((N):Int) > 64))
 (Q (AV.bool true) (State.untok (noObj)))
 (∃ c0:MH,(∃ n1:Int,(([(AV.int .i64 (N))] = [(AV.int .i64 (n1))])/\
 ((At c0 (State.untok (noObj)))/\
 ((((((n1):Int) < 0) \/ ((64:Int) < (n1))) -> (Q (AV.bool false) (State.untok (noObj))))/\
 ((((0:Int) <= (n1))/\
 (((n1):Int) <= 64)) -> (∀ c'2:MH,(∀ σ'3:State,(∀ M4:Nat,(((At c'2 σ'3)/\
 ((MRep c'2 M4 (RM.new (Int.toNat n1)))/\
 (Frame' c0 c'2))) -> ((((0:Int) <= (N))/\
 ((((N):Int) <= (N))/\
 ((((24 * (N)):Int) <= 140737488355328)/\
 (((N):Int) <= 4611686018427387904))))/\
 ((((0:Int) <= (N))/\
 ((((N):Int) <= (N))/\
 ((((8 * (N)):Int) <= 140737488355328)/\
 (((N):Int) <= 4611686018427387904))))/\
 (∃ y5:YO,((Ia (y5))/\
 (((Rf (TV.l 1 0))/\
 (((TV.v (AV.ptr (M4) 0)) = (TV.v (AV.ptr (YO.M y5) 0)))/\
 (((TV.v (AV.rslice (State.next σ'3) 0 (Int.toNat (N)))) = (TV.v (AV.rslice (YO.ic y5) 0 (YO.n y5))))/\
 (((TV.v (AV.rslice ((State.next σ'3) + 1) 0 (Int.toNat (N)))) = (TV.v (AV.rslice (YO.ib y5) 0 (YO.n y5))))/\
 (((TV.v (AV.int .i64 (((Int.toNat (N)):Nat):Int))) = (TV.v (AV.int .i64 ((YO.n y5:Nat):Int))))/\
 (((TV.v (AV.int .i64 0)) = (TV.v (AV.int .i64 ((YO.i y5:Nat):Int))))/\
 ((Rf [(AV.int .i64 (N)),(AV.slice 7 (evL l) Cap.any)])/\
 (State.Le (y5.1) (State.new (State.new σ'3 (AObj.cells (List.flatten (List.replicate (Int.toNat N) (AV.cells (av (Go.Value.slice Option.none 0 0))))) 23 1 false)) (AObj.cells (List.flatten (List.replicate (Int.toNat N) (AV.cells (av (Go.Value.int IntKind.i64 0))))) 3 1 false))))))))))/\
 (∀ y'6:YO,((Ra (y'6)) -> (∃ y7:YO,((I (y7))/\
 (((Rf (TV.l 1 0))/\
 (((TV.v (AV.ptr (YO.M y'6) 0)) = (TV.v (AV.ptr (YO.M y7) 0)))/\
 (((TV.v (AV.rslice (YO.ic y'6) 0 (YO.n y'6))) = (TV.v (AV.rslice (YO.ic y7) 0 (YO.n y7))))/\
 (((TV.v (AV.rslice (YO.ib y'6) 0 (YO.n y'6))) = (TV.v (AV.rslice (YO.ib y7) 0 (YO.n y7))))/\
 (((TV.v (AV.int .i64 0)) = (TV.v (AV.int .i64 ((YO.i y7:Nat):Int))))/\
 ((Rf [(AV.int .i64 (N)),(AV.slice 7 (evL l) Cap.any)])/\
 (State.Le (y7.1) (y'6.1))))))))/\
 (∀ σ'8:State,(Q (AV.bool true) σ'8)))))))))))))))))))))))))):=by kernel_rfl
end Go.V
/- What events do to lists of items: plain terms. -/
set_option linter.unusedSimpArgs false
namespace Go.V
open Go Go.Proofs

theorem once_close {m:RM} (hW:m.Wf) (i:Int):(m.close i).1.I.length = m.I.length /\ ∀ j,((m.close i).1.at j).q = (m.at j).q /\ ((m.close i).1.at j).bh = (m.at j).bh:=by
 unfold RM.close
 cases ho:m.opened i with
 | none => exact ⟨rfl,fun j => ⟨rfl,rfl⟩⟩
 | some k =>
  obtain ⟨rfl,hk,hop⟩:=opened_some ho
  obtain ⟨w1,_⟩:=shut_wf hW hk hop
  obtain ⟨g1,g2,g3,g4,_⟩:=fresh_wf w1 fun j hj => hj.elim
  have hat:∀ j,(m.shut k).at j = if j = k then { m.at k with op:=false } else m.at j:=fun j => RM.set_at (I:=m.I) rfl hk
  refine ⟨g3.trans List.length_set,fun j => ⟨?_,?_⟩⟩
  ·rw [(g4 j).1,hat]; split
   ·rename_i e; rw [e]
   ·rfl
  ·rw [(g4 j).2.2.1,hat]; split
   ·rename_i e; rw [e]
   ·rfl
theorem once_split {m:RM} (hW:m.Wf) (i n:Int):∃ c,(m.split i n).2.1 = List.range' m.I.length c /\ (m.split i n).1.I.length = m.I.length + c /\ ((m.split i n).2.2 ≠ 0 -> c = 0) /\ m.I.length + c <= 4096 /\
  (∀ j,j < m.I.length -> ((m.split i n).1.at j).q = (m.at j).q /\ ((m.split i n).1.at j).bh = (m.at j).bh) /\ ∀ j,m.I.length <= j -> j < m.I.length + c -> ((m.split i n).1.at j).q = [] /\ ((m.split i n).1.at j).bh = i:=by
 have hlen:=hW.w.len
 have bad:∀ e:Int,∃ c,((m,([]:List Nat),e):RM × List Nat × Int).2.1 = List.range' m.I.length c /\ ((m,([]:List Nat),e):RM × List Nat × Int).1.I.length = m.I.length + c /\ (((m,([]:List Nat),e):RM × List Nat × Int).2.2 ≠ 0 -> c = 0) /\ m.I.length + c <= 4096 /\
   (∀ j,j < m.I.length -> (((m,([]:List Nat),e):RM × List Nat × Int).1.at j).q = (m.at j).q /\ (((m,([]:List Nat),e):RM × List Nat × Int).1.at j).bh = (m.at j).bh) /\ ∀ j,m.I.length <= j -> j < m.I.length + c -> (((m,([]:List Nat),e):RM × List Nat × Int).1.at j).q = [] /\ (((m,([]:List Nat),e):RM × List Nat × Int).1.at j).bh = i:=fun e =>
  ⟨0,rfl,rfl,fun _ => rfl,by omega,fun j _ => ⟨rfl,rfl⟩,fun j h1 h2 => by omega⟩
 unfold RM.split
 cases ho:m.opened i with
 | none => exact bad 90
 | some k =>
  obtain ⟨rfl,hk,hop⟩:=opened_some ho
  dsimp only
  split
  ·exact bad 1
  ·rename_i h1
   split
   ·exact bad 2
   ·rename_i h2
    obtain ⟨w1,w2,_⟩:=shut_wf hW hk hop
    have hsl:(m.shut k).I.length = m.I.length:=List.length_set
    have hat:∀ j,(m.shut k).at j = if j = k then { m.at k with op:=false } else m.at j:=fun j => RM.set_at (I:=m.I) rfl hk
    have hko:((m.shut k).at k).op = false:=by rw [hat,if_pos rfl]
    obtain ⟨v1,_⟩:=split1_wf (n:=n.toNat) w1 (by omega) hko (by omega) w2
    obtain ⟨g1,g2,g3,g4,_⟩:=fresh_wf v1 fun j hj => hj.elim
    refine ⟨n.toNat,rfl,by dsimp only; rw [g3,split1_len,hsl],fun h => absurd rfl h,by omega,fun j hj => ⟨?_,?_⟩,fun j hj1 hj2 => ⟨?_,?_⟩⟩
    ·dsimp only
     rw [(g4 j).1,split1_at (by omega),hat]; split
     ·rename_i e; rw [e]
     ·rfl
    ·dsimp only
     rw [(g4 j).2.2.1,split1_at (by omega),hat]; split
     ·rename_i e; rw [e]
     ·rfl
    ·dsimp only
     rw [(g4 j).1,split1_new (by omega) (by omega)]
    ·dsimp only
     rw [(g4 j).2.2.1,split1_new (by omega) (by omega)]
theorem once_next {m:RM} (hW:m.Wf):m.next.1.I.length = m.I.length /\ (∀ j,(m.next.1.at j).bh = (m.at j).bh) /\ ((m.next.2 = none /\ ∀ j,(m.next.1.at j).q = (m.at j).q) \/
  ∃ x,m.next.2 = some x /\ x.1 < m.I.length /\ (m.next.1.at x.1).fr = true /\ (m.at x.1).q = x.2 :: (m.next.1.at x.1).q /\ (∀ j,j ≠ x.1 -> (m.next.1.at j).q = (m.at j).q) /\ chkT x.2 = 0):=by
 unfold RM.next
 cases ht:m.turn with
 | nil => exact ⟨rfl,fun _ => rfl,.inl ⟨rfl,fun _ => rfl⟩⟩
 | cons k r =>
  dsimp only
  cases hq:(m.at k).q with
  | nil => exact ⟨rfl,fun _ => rfl,.inl ⟨rfl,fun _ => rfl⟩⟩
  | cons t q =>
   dsimp only
   obtain ⟨hk,hkf,_,_⟩:=(hW.w.tm k).1 (by rw [ht]; simp)
   obtain ⟨w1,_⟩:=take1_wf hW ht hq
   have hat:∀ j,(m.take1 k r q).at j = if j = k then { m.at k with q:=q } else m.at j:=fun j => RM.set_at (I:=m.I) rfl hk
   obtain ⟨g1,g2,g3,g4,_⟩:=fresh_wf w1 fun j hj => by rw [hj,hat,if_pos rfl]; exact hkf
   have hb:∀ j,((m.take1 k r q).fresh.back k q).at j = (m.take1 k r q).fresh.at j:=fun j => rfl
   refine ⟨g3.trans List.length_set,fun j => ?_,.inr ⟨(k,t),rfl,hk,?_,?_,fun j hj => ?_,hW.w.chk k t (by rw [hq]; simp)⟩⟩
   ·rw [hb,(g4 j).2.2.1,hat]; split
    ·rename_i e; rw [e]
    ·rfl
   ·dsimp only
    rw [hb]
    exact (g4 k).2.2.2 (by rw [hat,if_pos rfl]; exact hkf)
   ·dsimp only
    rw [hb,(g4 k).1,hat,if_pos rfl,hq]
   ·dsimp only at hj ⊢
    rw [hb,(g4 j).1,hat,if_neg hj]
theorem once_put {m:RM} (hW:m.Wf) (i:Int) (t:T):(m.put i t).1.I.length = m.I.length /\ (∀ j,((m.put i t).1.at j).bh = (m.at j).bh) /\ (((m.put i t).2 ≠ 0 /\ ∀ j,((m.put i t).1.at j).q = (m.at j).q) \/
  ((m.put i t).2 = 0 /\ ∃ k:Nat,i = (k:Int) /\ k < m.I.length /\ ∀ j,((m.put i t).1.at j).q = if j = k then (m.at j).q ++ [t] else (m.at j).q)):=by
 unfold RM.put
 cases ho:m.opened i with
 | none => exact ⟨rfl,fun _ => rfl,.inl ⟨(show (90:Int) ≠ 0 by decide),fun _ => rfl⟩⟩
 | some k =>
  obtain ⟨rfl,hk,hop⟩:=opened_some ho
  dsimp only
  split
  ·exact ⟨rfl,fun _ => rfl,.inl ⟨(show (3:Int) ≠ 0 by decide),fun _ => rfl⟩⟩
  ·split
   ·exact ⟨rfl,fun _ => rfl,.inl ⟨(show (91:Int) ≠ 0 by decide),fun _ => rfl⟩⟩
   ·have hat:∀ j,(m.put1 k t).at j = if j = k then { m.at k with q:=(m.at k).q ++ [t] } else m.at j:=fun j => RM.set_at (I:=m.I) rfl hk
    refine ⟨List.length_set,fun j => ?_,.inr ⟨rfl,k,rfl,hk,fun j => ?_⟩⟩
    ·dsimp only
     rw [hat]; split
     ·rename_i e; rw [e]
     ·rfl
    ·dsimp only
     rw [hat]; split
     ·rename_i e; rw [e]
     ·rfl
theorem once_do {m:RM} (hW:m.Wf) {e:Ev} (hk3:e.k ≠ 3):(m.do e).1.I.length = m.I.length /\ (∀ j,((m.do e).1.at j).bh = (m.at j).bh) /\
  ((e.k = 1 /\ (m.do e).2.2 = 0 -> (m.do e).2.1 = [] /\ ∃ k:Nat,e.i = (k:Int) /\ k < m.I.length /\ ∀ j,((m.do e).1.at j).q = if j = k then (m.at j).q ++ [e.t] else (m.at j).q) /\
   (¬ (e.k = 1 /\ (m.do e).2.2 = 0) -> ((m.do e).2.1 = [] /\ ∀ j,((m.do e).1.at j).q = (m.at j).q) \/
    ∃ x,(m.do e).2.1 = [x] /\ x.1 < m.I.length /\ ((m.do e).1.at x.1).fr = true /\ (m.at x.1).q = x.2 :: ((m.do e).1.at x.1).q /\ (∀ j,j ≠ x.1 -> ((m.do e).1.at j).q = (m.at j).q) /\ chkT x.2 = 0)):=by
 by_cases h1:e.k = 1
 ·have hd:m.do e = ((m.put e.i e.t).1,[],(m.put e.i e.t).2):=by unfold RM.do; rw [if_pos h1]
  rw [hd]
  obtain ⟨a1,a2,a3⟩:=once_put hW e.i e.t
  refine ⟨a1,a2,fun h => ⟨rfl,?_⟩,fun h => .inl ⟨rfl,?_⟩⟩
  ·rcases a3 with ⟨h2,_⟩ | ⟨_,h2⟩
   ·exact absurd h.2 h2
   ·exact h2
  ·rcases a3 with ⟨_,h2⟩ | ⟨h2,_⟩
   ·exact h2
   ·exact absurd ⟨h1,h2⟩ h
 ·by_cases h2:e.k = 2
  ·have hd:m.do e = ((m.close e.i).1,[],(m.close e.i).2):=by unfold RM.do; rw [if_neg h1,if_pos h2]
   rw [hd]
   obtain ⟨a1,a2⟩:=once_close hW e.i
   exact ⟨a1,fun j => (a2 j).2,fun h => absurd h.1 h1,fun _ => .inl ⟨rfl,fun j => (a2 j).1⟩⟩
  ·have hd:m.do e = (m.next.1,m.next.2.toList,0):=by unfold RM.do; rw [if_neg h1,if_neg h2,if_neg hk3]
   rw [hd]
   obtain ⟨a1,a2,a3⟩:=once_next hW
   refine ⟨a1,a2,fun h => absurd h.1 h1,fun _ => ?_⟩
   rcases a3 with ⟨h3,h4⟩ | ⟨x,h3,h4⟩
   ·exact .inl ⟨by dsimp only; rw [h3]; rfl,h4⟩
   ·exact .inr ⟨x,by dsimp only; rw [h3]; rfl,h4⟩
end Go.V
/- The law StreamOnce: the chain of inputs, the items. -/
set_option linter.unusedSectionVars false
namespace Go.V
open Go Go.Proofs

def RoO (c:MH) (r:MRole) (v:AV) (q:List T):Prop:=(v = .nilslice /\ q = []) \/ ∃ (id off:Nat) (g:Bool) (pre:List AV),v = .rslice id off q.length /\ c r = some (id,.cells (pre ++ flat (tcellL q)) 37 4 g) /\ pre.length = off * 4
theorem RoO.congr {c c':MH} {r:MRole} {v:AV} {q:List T} (h:RoO c r v q) (hc:c' r = c r):RoO c' r v q:=by
 rcases h with h | ⟨id,off,g,pre,h1,h2,h3⟩
 ·exact .inl h
 ·exact .inr ⟨id,off,g,pre,h1,hc.trans h2,h3⟩
structure IOn (c:MH) (q:Nat -> List T) (b:Nat -> Int) (n ic ib:Nat):Prop where
 came:∃ cv g,c (.x 0) = some (ic,.cells cv 23 1 g) /\ cv.length = n /\ ∀ k,k < n -> RoO c (.x (2 + k)) (cv.getD k .undef) (q k)
 beh:∃ g,c (.x 1) = some (ib,.cells (intsO ((List.range n).map b)) 3 1 g)
 xt:XT c
theorem IOn.frame {c c':MH} {q:Nat -> List T} {b:Nat -> Int} {n ic ib:Nat} (h:IOn c q b n ic ib) (hf:Frame' c c'):IOn c' q b n ic ib:=by
 obtain ⟨⟨cv,g,h1,h2,h3⟩,⟨g',h4⟩,h5⟩:=h
 exact ⟨⟨cv,g,(hf 0).trans h1,h2,fun k hk => (h3 k hk).congr (hf _)⟩,⟨g',(hf 1).trans h4⟩,h5.frame hf⟩
theorem IOn.clean {c:MH} {q:Nat -> List T} {b:Nat -> Int} {n ic ib:Nat} (h:IOn c q b n ic ib):IOn (cleanH c) q b n ic ib:=h.frame (XT.clean h.xt)
theorem IOn.ext {c:MH} {q q':Nat -> List T} {b b':Nat -> Int} {n n' ic ib:Nat} (h:IOn c q b n ic ib) (hn:n' = n) (hq:∀ k,k < n -> q' k = q k) (hb:∀ k,k < n -> b' k = b k):IOn c q' b' n' ic ib:=by
 subst hn
 obtain ⟨⟨cv,g,h1,h2,h3⟩,⟨g',h4⟩,h5⟩:=h
 refine ⟨⟨cv,g,h1,h2,fun k hk => by rw [hq k hk]; exact h3 k hk⟩,⟨g',?_⟩,h5⟩
 rw [h4]
 have:(List.range n').map b' = (List.range n').map b:=List.map_congr_left fun k hk => hb k (List.mem_range.1 hk)
 rw [this]
theorem asplice_one {cs:List AV} {k:Nat} (h:k < cs.length) (v:AV):asplice cs k [v] = cs.set k v:=by
 rw [List.set_eq_take_append_cons_drop,if_pos h]; unfold asplice; simp
theorem getD_setA (l:List AV) (i j:Nat) (x d:AV) (hi:i < l.length):(l.set i x).getD j d = if j = i then x else l.getD j d:=by
 simp only [List.getD,List.getElem?_set]
 by_cases h:i = j
 ·subst h; simp [hi]
 ·rw [if_neg h,if_neg (fun e => h e.symm)]
theorem IOn.upd {c c':MH} {q q':Nat -> List T} {b:Nat -> Int} {n ic ib k:Nat} {v:AV} {cv:List AV} {g:Bool} (h:IOn c q b n ic ib) (h0:c (.x 0) = some (ic,.cells cv 23 1 g)) (hk:k < n)
  (hc':c' (.x 0) = some (ic,.cells (asplice cv k [v]) 23 1 g)) (hx:∀ i,i ≠ 0 -> i ≠ 2 + k -> c' (.x i) = c (.x i)) (hv:RoO c' (.x (2 + k)) v (q' k)) (hq:∀ j,j ≠ k -> q' j = q j) (hxt:XT c'):IOn c' q' b n ic ib:=by
 obtain ⟨⟨cv',g',h1,h2,h3⟩,⟨g2,h4⟩,h5⟩:=h
 rw [h0] at h1
 cases h1
 refine ⟨⟨_,g,hc',?_,fun j hj => ?_⟩,⟨g2,(hx 1 (by omega) (by omega)).trans h4⟩,hxt⟩
 ·rw [asplice_one (by omega),List.length_set]; exact h2
 ·rw [asplice_one (by omega),getD_setA _ _ _ _ _ (by omega)]
  by_cases e:j = k
  ·subst e; rw [if_pos rfl]; exact hv
  ·rw [if_neg e,hq j e]
   exact (h3 j hj).congr (hx _ (by omega) (by omega))
theorem intsO_len (l:List Int):(intsO l).length = l.length:=List.length_map _
theorem intsO_range {b:Nat -> Int} {n k:Nat} (h:k < n):(intsO ((List.range n).map b)).getD k .undef = .int .i64 (b k):=by
 unfold intsO; rw [List.getD,List.getElem?_map,List.getElem?_map,List.getElem?_range h]; rfl
theorem itemsO_len (l:List (Nat × T)):(itemsO l).length = l.length:=List.length_map _
theorem itemsO_get {l:List (Nat × T)} {i:Nat} (h:i < l.length):AV.vptr (AV.cells ((itemsO l).getD i .undef)) = .vptr [.int .i64 ((l[i]).1:Int),.int .i64 (l[i]).2.k,.int .i64 (l[i]).2.n,.str (l[i]).2.s,.slice 4 (tcellL (l[i]).2.l) .any]:=by
 unfold itemsO; rw [List.getD,List.getElem?_map,List.getElem?_eq_getElem h]; rfl
theorem flat_cons_t (t:T) (q:List T):flat (tcellL (t :: q)) = [.int .i64 t.k,.int .i64 t.n,.str t.s,.slice 4 (tcellL t.l) .any] ++ flat (tcellL q):=by
 show flat (tcell t :: tcellL q) = _
 rw [flat_cons]; cases t; rfl

structure IE10 (z y:YO):Prop where
 eq:y = { z with b:=y.b }
 at_:At z.c z.σ
 on:IOn z.c (fun k => (z.m.at k).q) (fun k => (z.m.at k).bh) z.n z.ic z.ib
 n:z.n = z.m.I.length
 wf:z.m.Wf
 b:y.b = -1 \/ (0 <= y.b /\ y.b < z.n /\ (z.m.at y.b.toNat).fr = true /\ (z.m.at y.b.toNat).dead = true)

def qpre (x:List (Nat × T)) (j:Nat) (m:RM) (k:Nat):List T:=match x[j]? with
 | some z => if k = z.1 then z.2 :: (m.at k).q else (m.at k).q
 | none => (m.at k).q
structure ID10 (i0:Nat) (x:List (Nat × T)) (y:YO):Prop where
 at_:At y.c y.σ
 rep:MRep y.c y.M y.m
 n:y.n = y.m.I.length
 on:IOn y.c (qpre x y.j y.m) (fun k => (y.m.at k).bh) y.n y.ic y.ib
 one:x.length <= 1
 j:y.j <= x.length
 i:y.i = i0
 zs:∀ z,x[y.j]? = some z -> z.1 < y.n /\ (y.m.at z.1).fr = true /\ chkT z.2 = 0

section
variable {B:Nat} {w0:World}
theorem loop10e {N:Int} {l:List Ev} {x:List (Nat × T)} {z:YO} {y0:YO} (h0:IE10 z y0) (Q:Post) (a:AAct) (σ:State) (ha:atF a ((ls10e N l x (IE10 z)).F y0) (FL10 N l) (y0.σ.Le σ))
  (hQ:∀ y':YO,IE10 z y' -> Q (.exit 8) (frm [(1,.l 1 0),(3,.v (.ptr y'.M 0)),(5,.v (.rslice y'.ic 0 y'.n)),(6,.v (.rslice y'.ib 0 y'.n)),(8,.v (.int .i64 (y'.i:Int))),(157,.v (.slice 5 (itemsO x) .any)),(158,.v (.int .i64 ((itemsO x).length:Int))),(159,.v (.int .i64 (y'.j:Int)))] (FL10 N l)) y'.σ) :
  AWp (EV B w0 G1) none (fnTmps Tryz.prog 10) (.loop (bodyOf (subPart [] (subPart [] (fnPart Tryz.prog [] 10 1) 1) 0))) Q a σ:=by
 refine awp_loopS (ls10e N l x (IE10 z)) (x0:=y0) (fun y hI => ?_) (fun y hI e a σ hne kk => ?_) h0 ha
 ·have hI:IE10 z y:=hI
  show AWp _ _ _ _ _ (frm [(1,.l 1 0),(3,.v (.ptr y.M 0)),(5,.v (.rslice y.ic 0 y.n)),(6,.v (.rslice y.ib 0 y.n)),(8,.v (.int .i64 (y.i:Int))),(157,.v (.slice 5 (itemsO x) .any)),(158,.v (.int .i64 ((itemsO x).length:Int))),(159,.v (.int .i64 (y.j:Int))),(18,.v (.int .i64 y.b))] [(1,[.int .i64 N,.slice 7 (evL l) .any])]) y.σ
  refine wpX_ok H0_ok (EV_mixed B w0 G1) (L:=fun _ _ _ _ => False) _ _ _ _ (fun p hp hc Q a σ k => k.elim) (by kernel_rfl) ((vc10e B w0 G1 N l x (IE10 z) y).mpr ?_)
  refine bcase_of (fun h1 => bcase_of (fun h2 => ?_) (fun h2 => ⟨rfl,rfl,rfl,rfl,rfl,rfl,rfl,rfl,rfl,.refl _⟩)) (fun h1 => ⟨rfl,rfl,rfl,rfl,rfl,rfl,rfl,rfl,rfl,.refl _⟩)
  have h1:y.b ≥ 0:=of_decide_eq_true h1
  have h2:=of_decide_eq_true h2
  obtain ⟨hbl,hbf,hbd⟩:y.b < z.n /\ (z.m.at y.b.toNat).fr = true /\ (z.m.at y.b.toNat).dead = true:=by
   rcases hI.b with h | ⟨_,h⟩
   ·omega
   ·exact h
  have hσ:y.σ = z.σ:=by rw [hI.eq]
  have hic:y.ic = z.ic:=by rw [hI.eq]
  have hib:y.ib = z.ib:=by rw [hI.eq]
  have hnn:y.n = z.n:=by rw [hI.eq]
  obtain ⟨k,hk⟩:∃ k:Nat,y.b = (k:Int):=⟨y.b.toNat,by omega⟩
  rw [hk] at hbl hbf hbd h2 ⊢
  simp only [Int.toNat_natCast] at hbf hbd
  obtain ⟨⟨cv,g,c1,c2,c3⟩,⟨g',c4⟩,_⟩:=hI.on
  have ho:=hI.at_.obj c1
  have hob:=hI.at_.obj c4
  have hkn:k < z.n:=by omega
  have hkl:k < z.m.I.length:=by have:=hI.n; omega
  have hq0:(z.m.at k).q = []:=(dead_iff.1 hbd).2
  have hr:=c3 k hkn
  rw [hq0] at hr
  have hrng:(0:Int) <= (k:Int) /\ (k:Int) < (y.n:Int):=⟨by omega,h2⟩
  have hgd:cv.getD ((0 + Int.toNat (k:Int)) * 1) .undef = cv.getD k .undef:=by rw [Int.toNat_natCast,Nat.zero_add,Nat.mul_one]
  have hgb:(intsO ((List.range z.n).map fun k => (z.m.at k).bh)).getD ((0 + Int.toNat (k:Int)) * 1) .undef = .int .i64 (z.m.at k).bh:=by
   rw [Int.toNat_natCast,Nat.zero_add,Nat.mul_one]; exact intsO_range hkn
  have hbd1:(0 + Int.toNat (k:Int)) * 1 < cv.length:=by rw [Int.toNat_natCast]; omega
  have hbd2:(0 + Int.toNat (k:Int)) * 1 < (intsO ((List.range z.n).map fun k => (z.m.at k).bh)).length:=by rw [Int.toNat_natCast,intsO_len,List.length_map,List.length_range]; omega
  have hrk:=hI.wf.w.rk k hkl
  have hnext:IE10 z { y with b:=(z.m.at k).bh }:=by
   refine ⟨by rw [hI.eq],hI.at_,hI.on,hI.n,hI.wf,?_⟩
   rcases hI.wf.w.an k hkl hbf with h | ⟨h3,h4⟩
   ·exact .inl h
   ·by_cases e:(z.m.at k).bh = -1
    ·exact .inl e
    ·exact .inr ⟨by show 0 <= (z.m.at k).bh; omega,by show (z.m.at k).bh < z.n; omega,h3,h4⟩
  have hmu:((z.m.at k).bh + 1).toNat < ((k:Int) + 1).toNat:=by omega
  have tail:∃ a3:OE,(State.objs y.σ y.ib = AObj.cells a3.cs 3 1 a3.g) /\ ((0:Int) <= (k:Int) /\ (k:Int) < (y.n:Int)) /\ ∃ a4:OE,(State.objs y.σ y.ib = AObj.cells a4.cs 3 1 a4.g) /\ ((0 + Int.toNat (k:Int)) * 1 < a4.cs.length) /\ ∃ x4:Int,(List.getD a4.cs ((0 + Int.toNat (k:Int)) * 1) .undef = .int .i64 x4) /\ x4 = (z.m.at k).bh :=
   ⟨⟨_,g'⟩,by rw [hσ,hib]; exact hob,hrng,⟨_,g'⟩,by rw [hσ,hib]; exact hob,hbd2,_,hgb,rfl⟩
  have ho':State.objs y.σ y.ic = AObj.cells cv 23 1 g:=by rw [hσ,hic]; exact ho
  have hob':State.objs y.σ y.ib = AObj.cells (intsO ((List.range z.n).map fun k => (z.m.at k).bh)) 3 1 g':=by rw [hσ,hib]; exact hob
  rcases hr with ⟨e,_⟩ | ⟨id,off,qg,pre,e,_,_⟩
  ·exact ⟨⟨cv,g⟩,ho',hrng,⟨cv,g⟩,ho',hbd1,.inl ⟨hgd.trans e,⟨_,g'⟩,hob',hrng,⟨_,g'⟩,hob',hbd2,_,hgb,{ y with b:=(z.m.at k).bh },⟨hnext,by show ((z.m.at k).bh + 1).toNat < (y.b + 1).toNat; rw [hk]; exact hmu⟩,rfl,rfl,rfl,rfl,rfl,rfl,rfl,rfl,rfl,rfl,.refl _⟩⟩
  ·exact ⟨⟨cv,g⟩,ho',hrng,⟨cv,g⟩,ho',hbd1,.inr ⟨⟨id,off,0⟩,hgd.trans e,bcase_of (fun h => by simp at h) (fun _ => ⟨⟨_,g'⟩,hob',hrng,⟨_,g'⟩,hob',hbd2,_,hgb,{ y with b:=(z.m.at k).bh },⟨hnext,by show ((z.m.at k).bh + 1).toNat < (y.b + 1).toNat; rw [hk]; exact hmu⟩,rfl,rfl,rfl,rfl,rfl,rfl,rfl,rfl,rfl,rfl,.refl _⟩)⟩⟩
 ·cases e with
  | exit i =>
   match i,kk with
   | 8,kk =>
    have kk:atF a [(1,.l 1 0),(3,.v (.ptr y.M 0)),(5,.v (.rslice y.ic 0 y.n)),(6,.v (.rslice y.ib 0 y.n)),(8,.v (.int .i64 (y.i:Int))),(157,.v (.slice 5 (itemsO x) .any)),(158,.v (.int .i64 ((itemsO x).length:Int))),(159,.v (.int .i64 (y.j:Int)))] [(1,[.int .i64 N,.slice 7 (evL l) .any])] (y.σ.Le σ):=kk
    exact ⟨_,_,(atF_ok kk).1,(atF_ok kk).2,hQ y hI⟩
  | normal => exact absurd rfl hne
  | _ => exact kk.elim
end
end Go.V
