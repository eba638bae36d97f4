import Derived.Test.YtgnjidopnplbbaaGreatDoorG36
/- Conditions: the search of Check. -/
set_option maxRecDepth 1000000
set_option linter.unusedVariables false
namespace Go.V
open Go Go.Proofs

def tryI (f:Nat -> Option (List Nat)):List Nat -> Option (List Nat)
 | [] => none
 | i :: r => match f i with
  | some o => some o
  | none => tryI f r
def goesOn (ls:List (List T)) (out:List T) (p:List Nat) (n i:Nat):Bool :=
 match (ls[i]?).bind (fun l => l[p.getD i 0]?),out[out.length - (n + 1)]? with
 | some x,some y => same x y
 | _,_ => false
def mgF (ls:List (List T)) (out:List T):Nat -> List Nat -> Option (List Nat)
 | 0,_ => some []
 | n + 1,p => tryI (fun i => match goesOn ls out p n i with
  | true => (mgF ls out n (p.set i (p.getD i 0 + 1))).map (i :: ·)
  | false => none) (List.range ls.length)
def codeL:List (List T) -> List Nat -> Nat
 | l :: ls,a :: p => a + (l.length + 1) * codeL ls p
 | _,_ => 0
def prodL:List (List T) -> Nat
 | [] => 1
 | l :: ls => (l.length + 1) * prodL ls
def Bnd:List (List T) -> List Nat -> Prop
 | [],[] => True
 | l :: ls,a :: p => a <= l.length /\ Bnd ls p
 | _,_ => False
def boolsV (l:List Bool):List AV:=l.map fun b => AV.bool b
structure FI where
 oc:Nat
 out:Nat
 bc:Nat
 bo:Nat
 ls:Nat
 ac:Nat
 ao:Nat
 fc:Nat
def FI.caps (f:FI):List AV:=[.ptr f.oc 0,.ptr f.out 0,.ptr f.bc 0,.ptr f.ls 0,.ptr f.ac 0,.ptr f.fc 0]
def FI.fn (f:FI):AV:=.func (.func 61) [] f.caps
def OrdV (c:Heap KR) (v:AV) (order:List Nat):Prop:=(v = .nilslice /\ order = []) \/
 ∃ (ov:Nat) (cs:List AV) (g:Bool),v = .rslice ov 0 order.length /\ c .ov = some (ov,.cells cs 3 1 g) /\ order.length <= cs.length /\ cs.take order.length = intsV order
structure FRep (f:FI) (ls:List (List T)) (out:List T) (p order:List Nat) (bad:List Bool) (c:Heap KR):Prop where
 tok:NoTok c
 hls:∃ g,c .ls = some (f.ls,.cells [.slice 1 (lsV ls) .any] 22 1 g)
 hout:∃ g,c .out = some (f.out,.cells [slV out] 23 1 g)
 hbc:∃ g,c .bc = some (f.bc,.cells [.rslice f.bo 0 (prodL ls)] 122 1 g)
 hbo:∃ g,c .bo = some (f.bo,.cells (boolsV bad) 4 1 g)
 hac:∃ g,c .ac = some (f.ac,.cells [.rslice f.ao 0 ls.length] 26 1 g)
 hao:∃ g,c .ao = some (f.ao,.cells (intsV p) 3 1 g)
 hfc:∃ g,c .fc = some (f.fc,.cells [f.fn] 123 1 g)
 hoc:∃ v g,c .oc = some (f.oc,.cells [v] 26 1 g) /\ OrdV c v order
def BadOk (ls:List (List T)) (out:List T) (bad:List Bool):Prop:=bad.length = prodL ls /\ ∀ q,Bnd ls q -> bad.getD (codeL ls q) false = true -> q.sum <= out.length -> mgF ls out (out.length - q.sum) q = none
def FPre (f:FI) (ls:List (List T)) (out:List T) (N:Nat) (s:Nat) (p order:List Nat) (bad:List Bool) (σ:State):Prop :=
 (∃ c,At c σ /\ FRep f ls out p order bad c) /\ Bnd ls p /\ order.length = p.sum /\ p.sum <= out.length /\ out.length - p.sum < N /\ s = codeL ls p /\ BadOk ls out bad
def FYes (f:FI) (ls:List (List T)) (out:List T) (p order:List Nat) (σ:State):Prop :=
 ∃ (o p':List Nat) (bad:List Bool) (c:Heap KR),mgF ls out (out.length - p.sum) p = some o /\ At c σ /\ FRep f ls out p' (order ++ o) bad c
def FNo (f:FI) (ls:List (List T)) (out:List T) (p order:List Nat) (σ:State):Prop :=
 ∃ (bad:List Bool) (c:Heap KR),mgF ls out (out.length - p.sum) p = none /\ At c σ /\ FRep f ls out p order bad c /\ BadOk ls out bad
def C61 (f:FI) (ls:List (List T)) (out:List T) (N:Nat):Contract:=fun args σ K => ∃ (s:Nat) (p order:List Nat) (bad:List Bool),args = .int .i64 (s:Int) :: f.caps /\ FPre f ls out N s p order bad σ /\
 ((∀ σ':State,FYes f ls out p order σ' -> K (.bool true) σ') /\ ∀ σ':State,FNo f ls out p order σ' -> K (.bool false) σ')
def H61 (E:Env) (f:FI) (ls:List (List T)) (out:List T) (S N:Nat):Hand:=hnd E annA noHints [(62,C62 S),(61,C61 f ls out N)]
structure Y61 where
 σ:State
 bad:List Bool
 i:Nat
 w:Nat
def F61 (f:FI) (ls:List (List T)) (s:Nat) (y:Y61):List (Nat × TV):=[(0,.v (.int .i64 (s:Int))),(1,.v (.ptr f.oc 0)),(2,.v (.ptr f.out 0)),(3,.v (.ptr f.bc 0)),(4,.v (.ptr f.ls 0)),(5,.v (.ptr f.ac 0)),(6,.v (.ptr f.fc 0)),
 (9,.v (.int .i64 (y.w:Int))),(21,.v (.slice 1 (lsV ls) .any)),(22,.v (.int .i64 ((lsV ls).length:Int))),(23,.v (.int .i64 (y.i:Int)))]
def ls61 (f:FI) (ls:List (List T)) (s:Nat) (I:Y61 -> Prop) (Yes:State -> Prop):LS Y61 where
 F y:=F61 f ls s y
 FL _:=[]
 S y:=y.σ
 I:=I
 μ y:=ls.length - y.i
 Ex y e a σ:=match e with
  | .exit 0 => ¬ (y.i < ls.length) /\ atF a [(0,.v (.int .i64 (s:Int))),(3,.v (.ptr f.bc 0))] [] (y.σ.Le σ)
  | .ret => ∃ σ1:State,Yes σ1 /\ atF a [(8,.v (.bool true))] [] (σ1.Le σ)
  | _ => False
def hAC (f:FI) (ls:List (List T)):Hint:=Hint.of (fun g:Bool => AObj.cells [.rslice f.ao 0 ls.length] 26 1 g)
def hAI:Hint:=Hint.ofAs (fun x:OE => AObj.cells x.cs 3 1 x.g) (fun n:Nat => AV.int .i64 (n:Int))
def hRSo':Hint:=Hint.ofAs (fun x:OE => AObj.cells x.cs 26 1 x.g) (fun x:RS => AV.rslice x.id 0 x.n)
def N61 (f:FI) (ls:List (List T)) (out:List T):FnHint:=hAt [
 (1,0,hOutAt),(1,2,Hint.of (fun g:Bool => AObj.cells [slV out] 23 1 g)),
 (3,0,Hint.of (fun g:Bool => AObj.cells [.rslice f.bo 0 (prodL ls)] 122 1 g)),(3,2,hEl 4 1),(3,3,Hint.ofAs (fun x:OE => AObj.cells x.cs 4 1 x.g) (fun b:Bool => AV.bool b)),
 (6,0,Hint.of (fun g:Bool => AObj.cells [.slice 1 (lsV ls) .any] 22 1 g)),
 (8,1,hSl),(9,0,hAC f ls),(9,2,hEl 3 1),(9,3,hAI),(9,9,hAC f ls),(9,11,hEl 3 1),(9,12,hAI),(9,13,hT),(9,15,Hint.of (fun g:Bool => AObj.cells [slV out] 23 1 g)),(9,16,hOutAt),(9,18,hT),
 (10,0,hAC f ls),(10,2,hEl 3 1),(10,3,hAI),(10,5,hEl 3 1),(10,6,hEl 3 1),
 (11,0,hOutAt),(11,3,hEl 3 1),(11,4,hEl 26 1),
 (12,0,Hint.of (fun g:Bool => AObj.cells [f.fn] 123 1 g)),
 (14,0,hRSo'),(14,1,hRSo'),(14,4,hEl 3 1),(14,5,hEl 26 1),
 (15,0,hAC f ls),(15,2,hEl 3 1),(15,3,hAI),(15,5,hEl 3 1),(15,6,hEl 3 1),
 (18,0,Hint.of (fun g:Bool => AObj.cells [.rslice f.bo 0 (prodL ls)] 122 1 g)),(18,2,hEl 4 1),(18,3,hEl 4 1)]
def cuts61:List Nat:=[11,12]
def F61b (f:FI) (ls:List (List T)) (s i w:Nat) (l:List T):List (Nat × TV):=[(0,.v (.int .i64 (s:Int))),(1,.v (.ptr f.oc 0)),(2,.v (.ptr f.out 0)),(3,.v (.ptr f.bc 0)),(4,.v (.ptr f.ls 0)),(5,.v (.ptr f.ac 0)),(6,.v (.ptr f.fc 0)),
 (9,.v (.int .i64 (w:Int))),(10,.v (.int .i64 (i:Int))),(11,.v (slV l)),(21,.v (.slice 1 (lsV ls) .any)),(22,.v (.int .i64 ((lsV ls).length:Int))),(23,.v (.int .i64 (i:Int)))]
def P61 (F:List (Nat × TV)) (R Yes:State -> Prop):Post:=fun e a σ => match e with
 | .normal => ∃ σ1:State,R σ1 /\ atF a F [] (σ1.Le σ)
 | .ret => ∃ σ1:State,Yes σ1 /\ atF a [(8,.v (.bool true))] [] (σ1.Le σ)
 | _ => False
def T61p (f:FI) (ls:List (List T)) (s:Nat) (P R:Nat -> Nat -> List T -> State -> Prop) (Yes:State -> Prop):LHand:=fun _ Q a σ => ∃ (i w:Nat) (l:List T) (σ0:State),P i w l σ0 /\ atF a (F61b f ls s i w l) [] (σ0.Le σ) /\
 ((∀ σ':State,R i w l σ' -> Q .normal (frm (F61b f ls s i w l) []) σ') /\ ∀ σ':State,Yes σ' -> Q .ret (frm [(8,.v (.bool true))] []) σ')
theorem fnParts_61:fnParts Tryz.prog cuts61 61 = [.loop (bodyOf (fnPart Tryz.prog cuts61 61 0))]:=by kernel_rfl
def part61c (P:Program):Code:=subPart cuts61 (fnPart P cuts61 61 0) 0
def part61d (P:Program):Code:=subPart cuts61 (part61c P) 0
theorem subParts_61:subParts cuts61 (fnPart Tryz.prog cuts61 61 0) = [part61c Tryz.prog]:=by kernel_rfl
theorem partsIn_61c:partsIn cuts61 (part61c Tryz.prog) = [part61d Tryz.prog]:=by kernel_rfl
theorem vc61l (B:Nat) (w0:World) (G:Nat -> AV) (f:FI) (ls:List (List T)) (out:List T) (S N s:Nat) (P R:Nat -> Nat -> List T -> State -> Prop) (I:Y61 -> Prop) (Yes:State -> Prop) (y:Y61):(wpX cuts61 (EV B w0 G) (H61 (EV B w0 G) f ls out S N) (handL [(11,T61p f ls s P R Yes)]) (annA 61) (N61 f ls out) (bodyOf (fnPart Tryz.prog cuts61 61 0)) ((ls61 f ls s I Yes).post y) (frm (F61 f ls s y) []) y.σ) =
 ((bcase (decide ((((Y61.i y:Nat):Int):Int) < (((List.length (lsV ls)):Nat):Int)))
 ((((0:Int) <= ((Y61.i y:Nat):Int))/\
 ((((Y61.i y:Nat):Int):Int) < (((List.length (lsV ls)):Nat):Int)))/\
 (∃ x0:List T,(((AV.vptr (AV.cells (List.getD (lsV ls) (Int.toNat (↑(Y61.i y):Int)) AV.undef))) = (AV.vptr [(AV.slice 4 (tcellL x0) Cap.any)]))/\
 (∃ a1:Bool,(((State.objs (y.1) (FI.ac f)) = (AObj.cells [(AV.rslice (FI.ao f) 0 (List.length (ls)))] 26 1 (a1)))/\
 (((0:Nat) < 1)/\
 (∃ a2:OE,(((State.objs (y.1) (FI.ao f)) = (AObj.cells (OE.cs a2) 3 1 (OE.g a2)))/\
 ((((0:Int) <= ((Y61.i y:Nat):Int))/\
 ((((Y61.i y:Nat):Int):Int) < (((List.length (ls)):Nat):Int)))/\
 (∃ a3:OE,(((State.objs (y.1) (FI.ao f)) = (AObj.cells (OE.cs a3) 3 1 (OE.g a3)))/\
 (((((0 + (Int.toNat ((Y61.i y:Nat):Int))) * 1):Nat) < (List.length (OE.cs a3)))/\
 (∃ x4:Nat,(((List.getD (OE.cs a3) ((0 + Int.toNat (↑(Y61.i y):Int)) * 1) AV.undef) = (AV.int .i64 ((x4:Nat):Int)))/\
 (bcase (decide ((((x4:Nat):Int):Int) < (((List.length (tcellL x0)):Nat):Int)))
 (∃ a5:Bool,(((State.objs (y.1) (FI.ac f)) = (AObj.cells [(AV.rslice (FI.ao f) 0 (List.length (ls)))] 26 1 (a5)))/\
 (((0:Nat) < 1)/\
 (∃ a6:OE,(((State.objs (y.1) (FI.ao f)) = (AObj.cells (OE.cs a6) 3 1 (OE.g a6)))/\
 ((((0:Int) <= ((Y61.i y:Nat):Int))/\
 ((((Y61.i y:Nat):Int):Int) < (((List.length (ls)):Nat):Int)))/\
 (∃ a7:OE,(((State.objs (y.1) (FI.ao f)) = (AObj.cells (OE.cs a7) 3 1 (OE.g a7)))/\
 (((((0 + (Int.toNat ((Y61.i y:Nat):Int))) * 1):Nat) < (List.length (OE.cs a7)))/\
 (∃ x8:Nat,(((List.getD (OE.cs a7) ((0 + Int.toNat (↑(Y61.i y):Int)) * 1) AV.undef) = (AV.int .i64 ((x8:Nat):Int)))/\
 ((((0:Int) <= ((x8:Nat):Int))/\
 ((((x8:Nat):Int):Int) < (((List.length (tcellL x0)):Nat):Int)))/\
 (∃ x9:T,(((AV.vptr (AV.cells (List.getD (tcellL x0) (Int.toNat (↑x8:Int)) AV.undef))) = (AV.vptr [(AV.int .i64 (T.k x9)),(AV.int .i64 (T.n x9)),(AV.str (T.s x9)),(AV.slice 4 (tcellL (T.l x9)) Cap.any)]))/\
 (∃ a10:Bool,(((State.objs (y.1) (FI.out f)) = (AObj.cells [(AV.slice 4 (tcellL out) Cap.any)] 23 1 (a10)))/\
 (((0:Nat) < 1)/\
 (∃ a11:OE,(((State.objs (y.1) (FI.oc f)) = (AObj.cells (OE.cs a11) 26 1 (OE.g a11)))/\
 (((0:Nat) < (List.length (OE.cs a11)))/\
 ((((List.getD (OE.cs a11) 0 AV.undef) = AV.nilslice)/\
 ((((0:Int) <= 0)/\
 ((0:Int) < (((List.length (tcellL out)):Nat):Int)))/\
 (∃ x12:T,(((AV.vptr (AV.cells (List.getD (tcellL out) 0 AV.undef))) = (AV.vptr [(AV.int .i64 (T.k x12)),(AV.int .i64 (T.n x12)),(AV.str (T.s x12)),(AV.slice 4 (tcellL (T.l x12)) Cap.any)]))/\
 (∃ a13:T,(∃ b14:T,(([(AV.agg [(AV.int .i64 (T.k x9)),(AV.int .i64 (T.n x9)),(AV.str (T.s x9)),(AV.slice 4 (tcellL (T.l x9)) Cap.any)]),(AV.agg [(AV.int .i64 (T.k x12)),(AV.int .i64 (T.n x12)),(AV.str (T.s x12)),(AV.slice 4 (tcellL (T.l x12)) Cap.any)])] = [(AV.agg [(AV.int .i64 (T.k a13)),(AV.int .i64 (T.n a13)),(AV.str (T.s a13)),(AV.slice 4 (tcellL (T.l a13)) Cap.any)]),(AV.agg [(AV.int .i64 (T.k b14)),(AV.int .i64 (T.n b14)),(AV.str (T.s b14)),(AV.slice 4 (tcellL (T.l b14)) Cap.any)])])/\
 (((T.small a13)/\
 ((SizeOf.sizeOf a13:Nat) < (S)))/\
 (bcase (same a13 b14)
 (∃ a15:Bool,(((State.objs (State.untok (y.1)) (FI.ac f)) = (AObj.cells [(AV.rslice (FI.ao f) 0 (List.length (ls)))] 26 1 (a15)))/\
 (((0:Nat) < 1)/\
 (∃ a16:OE,(((State.objs (State.untok (y.1)) (FI.ao f)) = (AObj.cells (OE.cs a16) 3 1 (OE.g a16)))/\
 ((((0:Int) <= ((Y61.i y:Nat):Int))/\
 ((((Y61.i y:Nat):Int):Int) < (((List.length (ls)):Nat):Int)))/\
 (∃ a17:OE,(((State.objs (State.untok (y.1)) (FI.ao f)) = (AObj.cells (OE.cs a17) 3 1 (OE.g a17)))/\
 (((((0 + (Int.toNat ((Y61.i y:Nat):Int))) * 1):Nat) < (List.length (OE.cs a17)))/\
 (∃ x18:Nat,(((List.getD (OE.cs a17) ((0 + Int.toNat (↑(Y61.i y):Int)) * 1) AV.undef) = (AV.int .i64 ((x18:Nat):Int)))/\
 (∃ a19:OE,(((State.objs (State.untok (y.1)) (FI.ao f)) = (AObj.cells (OE.cs a19) 3 1 (OE.g a19)))/\
 ((((0:Int) <= ((Y61.i y:Nat):Int))/\
 ((((Y61.i y:Nat):Int):Int) < (((List.length (ls)):Nat):Int)))/\
 (∃ a20:OE,(((State.objs (State.untok (y.1)) (FI.ao f)) = (AObj.cells (OE.cs a20) 3 1 (OE.g a20)))/\
 ((((((0 + (Int.toNat ((Y61.i y:Nat):Int))) * 1) + 1):Nat) <= (List.length (OE.cs a20)))/\
 (∃ i21:Nat,(∃ w22:Nat,(∃ l23:List T,(∃ σ024:State,((P (i21) (w22) (l23) σ024)/\
 (((Rf (TV.v (AV.int .i64 ((s:Nat):Int))))/\
 ((Rf (TV.v (AV.ptr (FI.oc f) 0)))/\
 ((Rf (TV.v (AV.ptr (FI.out f) 0)))/\
 ((Rf (TV.v (AV.ptr (FI.bc f) 0)))/\
 ((Rf (TV.v (AV.ptr (FI.ls f) 0)))/\
 ((Rf (TV.v (AV.ptr (FI.ac f) 0)))/\
 ((Rf (TV.v (AV.ptr (FI.fc f) 0)))/\
 (((TV.v (AV.int .i64 ((Y61.w y:Nat):Int))) = (TV.v (AV.int .i64 ((w22:Nat):Int))))/\
 (((TV.v (AV.int .i64 ((Y61.i y:Nat):Int))) = (TV.v (AV.int .i64 ((i21:Nat):Int))))/\
 (((TV.v (AV.slice 4 (tcellL x0) Cap.any)) = (TV.v (AV.slice 4 (tcellL l23) Cap.any)))/\
 ((Rf (TV.v (AV.slice 1 (lsV ls) Cap.any)))/\
 ((Rf (TV.v (AV.int .i64 (((List.length (lsV ls)):Nat):Int))))/\
 (((TV.v (AV.int .i64 ((Y61.i y:Nat):Int))) = (TV.v (AV.int .i64 ((i21:Nat):Int))))/\
 (State.Le σ024 (State.set (State.untok (y.1)) (FI.ao f) (AObj.cells (asplice (OE.cs a20) ((0 + (Int.toNat ((Y61.i y:Nat):Int))) * 1) [(AV.int .i64 (IntKind.wrap .i64 (((x18:Nat):Int) + 1)))]) 3 1 (OE.g a20)))))))))))))))))/\
 ((∀ σ'25:State,((R (i21) (w22) (l23) σ'25) -> (∃ x'26:Y61,(((I (x'26))/\
 (((LS.μ (ls61 f ls s I Yes) x'26):Nat) < (LS.μ (ls61 f ls s I Yes) y)))/\
 ((Rf (TV.v (AV.int .i64 ((s:Nat):Int))))/\
 ((Rf (TV.v (AV.ptr (FI.oc f) 0)))/\
 ((Rf (TV.v (AV.ptr (FI.out f) 0)))/\
 ((Rf (TV.v (AV.ptr (FI.bc f) 0)))/\
 ((Rf (TV.v (AV.ptr (FI.ls f) 0)))/\
 ((Rf (TV.v (AV.ptr (FI.ac f) 0)))/\
 ((Rf (TV.v (AV.ptr (FI.fc f) 0)))/\
 (((TV.v (AV.int .i64 (IntKind.wrap .i64 (((w22:Nat):Int) * (IntKind.wrap .i64 ((((List.length (tcellL l23)):Nat):Int) + 1)))))) = (TV.v (AV.int .i64 ((Y61.w x'26:Nat):Int))))/\
 ((Rf (TV.v (AV.slice 1 (lsV ls) Cap.any)))/\
 ((Rf (TV.v (AV.int .i64 (((List.length (lsV ls)):Nat):Int))))/\
 (((TV.v (AV.int .i64 (IntKind.wrap .i64 (((i21:Nat):Int) + 1)))) = (TV.v (AV.int .i64 ((Y61.i x'26:Nat):Int))))/\
 (State.Le ((ls61 f ls s I Yes).3 x'26) σ'25))))))))))))))))/\
 (∀ σ'25:State,((Yes σ'25) -> (∃ σ126:State,((Yes σ126)/\
 ((Rf (TV.v (AV.bool true)))/\
 (State.Le σ126 σ'25))))))))))))))))))))))))))))))
 (∃ x'15:Y61,(((I (x'15))/\
 (((LS.μ (ls61 f ls s I Yes) x'15):Nat) < (LS.μ (ls61 f ls s I Yes) y)))/\
 ((Rf (TV.v (AV.int .i64 ((s:Nat):Int))))/\
 ((Rf (TV.v (AV.ptr (FI.oc f) 0)))/\
 ((Rf (TV.v (AV.ptr (FI.out f) 0)))/\
 ((Rf (TV.v (AV.ptr (FI.bc f) 0)))/\
 ((Rf (TV.v (AV.ptr (FI.ls f) 0)))/\
 ((Rf (TV.v (AV.ptr (FI.ac f) 0)))/\
 ((Rf (TV.v (AV.ptr (FI.fc f) 0)))/\
 (((TV.v (AV.int .i64 (IntKind.wrap .i64 (((Y61.w y:Nat):Int) * (IntKind.wrap .i64 ((((List.length (tcellL x0)):Nat):Int) + 1)))))) = (TV.v (AV.int .i64 ((Y61.w x'15:Nat):Int))))/\
 ((Rf (TV.v (AV.slice 1 (lsV ls) Cap.any)))/\
 ((Rf (TV.v (AV.int .i64 (((List.length (lsV ls)):Nat):Int))))/\
 (((TV.v (AV.int .i64 (IntKind.wrap .i64 (((Y61.i y:Nat):Int) + 1)))) = (TV.v (AV.int .i64 ((Y61.i x'15:Nat):Int))))/\
 (State.Le ((ls61 f ls s I Yes).3 x'15) (State.untok (y.1))))))))))))))))))))))))) \/ (∃ x12:RS,(((List.getD (OE.cs a11) 0 AV.undef) = (AV.rslice (RS.id x12) 0 (RS.n x12)))/\
 ((((0:Int) <= ((RS.n x12:Nat):Int))/\
 ((((RS.n x12:Nat):Int):Int) < (((List.length (tcellL out)):Nat):Int)))/\
 (∃ x13:T,(((AV.vptr (AV.cells (List.getD (tcellL out) (Int.toNat (↑(RS.n x12):Int)) AV.undef))) = (AV.vptr [(AV.int .i64 (T.k x13)),(AV.int .i64 (T.n x13)),(AV.str (T.s x13)),(AV.slice 4 (tcellL (T.l x13)) Cap.any)]))/\
 (∃ a14:T,(∃ b15:T,(([(AV.agg [(AV.int .i64 (T.k x9)),(AV.int .i64 (T.n x9)),(AV.str (T.s x9)),(AV.slice 4 (tcellL (T.l x9)) Cap.any)]),(AV.agg [(AV.int .i64 (T.k x13)),(AV.int .i64 (T.n x13)),(AV.str (T.s x13)),(AV.slice 4 (tcellL (T.l x13)) Cap.any)])] = [(AV.agg [(AV.int .i64 (T.k a14)),(AV.int .i64 (T.n a14)),(AV.str (T.s a14)),(AV.slice 4 (tcellL (T.l a14)) Cap.any)]),(AV.agg [(AV.int .i64 (T.k b15)),(AV.int .i64 (T.n b15)),(AV.str (T.s b15)),(AV.slice 4 (tcellL (T.l b15)) Cap.any)])])/\
 (((T.small a14)/\
 ((SizeOf.sizeOf a14:Nat) < (S)))/\
 (bcase (same a14 b15)
 (∃ a16:Bool,(((State.objs (State.untok (y.1)) (FI.ac f)) = (AObj.cells [(AV.rslice (FI.ao f) 0 (List.length (ls)))] 26 1 (a16)))/\
 (((0:Nat) < 1)/\
 (∃ a17:OE,(((State.objs (State.untok (y.1)) (FI.ao f)) = (AObj.cells (OE.cs a17) 3 1 (OE.g a17)))/\
 ((((0:Int) <= ((Y61.i y:Nat):Int))/\
 ((((Y61.i y:Nat):Int):Int) < (((List.length (ls)):Nat):Int)))/\
 (∃ a18:OE,(((State.objs (State.untok (y.1)) (FI.ao f)) = (AObj.cells (OE.cs a18) 3 1 (OE.g a18)))/\
 (((((0 + (Int.toNat ((Y61.i y:Nat):Int))) * 1):Nat) < (List.length (OE.cs a18)))/\
 (∃ x19:Nat,(((List.getD (OE.cs a18) ((0 + Int.toNat (↑(Y61.i y):Int)) * 1) AV.undef) = (AV.int .i64 ((x19:Nat):Int)))/\
 (∃ a20:OE,(((State.objs (State.untok (y.1)) (FI.ao f)) = (AObj.cells (OE.cs a20) 3 1 (OE.g a20)))/\
 ((((0:Int) <= ((Y61.i y:Nat):Int))/\
 ((((Y61.i y:Nat):Int):Int) < (((List.length (ls)):Nat):Int)))/\
 (∃ a21:OE,(((State.objs (State.untok (y.1)) (FI.ao f)) = (AObj.cells (OE.cs a21) 3 1 (OE.g a21)))/\
 ((((((0 + (Int.toNat ((Y61.i y:Nat):Int))) * 1) + 1):Nat) <= (List.length (OE.cs a21)))/\
 (∃ i22:Nat,(∃ w23:Nat,(∃ l24:List T,(∃ σ025:State,((P (i22) (w23) (l24) σ025)/\
 (((Rf (TV.v (AV.int .i64 ((s:Nat):Int))))/\
 ((Rf (TV.v (AV.ptr (FI.oc f) 0)))/\
 ((Rf (TV.v (AV.ptr (FI.out f) 0)))/\
 ((Rf (TV.v (AV.ptr (FI.bc f) 0)))/\
 ((Rf (TV.v (AV.ptr (FI.ls f) 0)))/\
 ((Rf (TV.v (AV.ptr (FI.ac f) 0)))/\
 ((Rf (TV.v (AV.ptr (FI.fc f) 0)))/\
 (((TV.v (AV.int .i64 ((Y61.w y:Nat):Int))) = (TV.v (AV.int .i64 ((w23:Nat):Int))))/\
 (((TV.v (AV.int .i64 ((Y61.i y:Nat):Int))) = (TV.v (AV.int .i64 ((i22:Nat):Int))))/\
 (((TV.v (AV.slice 4 (tcellL x0) Cap.any)) = (TV.v (AV.slice 4 (tcellL l24) Cap.any)))/\
 ((Rf (TV.v (AV.slice 1 (lsV ls) Cap.any)))/\
 ((Rf (TV.v (AV.int .i64 (((List.length (lsV ls)):Nat):Int))))/\
 (((TV.v (AV.int .i64 ((Y61.i y:Nat):Int))) = (TV.v (AV.int .i64 ((i22:Nat):Int))))/\
 (State.Le σ025 (State.set (State.untok (y.1)) (FI.ao f) (AObj.cells (asplice (OE.cs a21) ((0 + (Int.toNat ((Y61.i y:Nat):Int))) * 1) [(AV.int .i64 (IntKind.wrap .i64 (((x19:Nat):Int) + 1)))]) 3 1 (OE.g a21)))))))))))))))))/\
 ((∀ σ'26:State,((R (i22) (w23) (l24) σ'26) -> (∃ x'27:Y61,(((I (x'27))/\
 (((LS.μ (ls61 f ls s I Yes) x'27):Nat) < (LS.μ (ls61 f ls s I Yes) y)))/\
 ((Rf (TV.v (AV.int .i64 ((s:Nat):Int))))/\
 ((Rf (TV.v (AV.ptr (FI.oc f) 0)))/\
 ((Rf (TV.v (AV.ptr (FI.out f) 0)))/\
 ((Rf (TV.v (AV.ptr (FI.bc f) 0)))/\
 ((Rf (TV.v (AV.ptr (FI.ls f) 0)))/\
 ((Rf (TV.v (AV.ptr (FI.ac f) 0)))/\
 ((Rf (TV.v (AV.ptr (FI.fc f) 0)))/\
 (((TV.v (AV.int .i64 (IntKind.wrap .i64 (((w23:Nat):Int) * (IntKind.wrap .i64 ((((List.length (tcellL l24)):Nat):Int) + 1)))))) = (TV.v (AV.int .i64 ((Y61.w x'27:Nat):Int))))/\
 ((Rf (TV.v (AV.slice 1 (lsV ls) Cap.any)))/\
 ((Rf (TV.v (AV.int .i64 (((List.length (lsV ls)):Nat):Int))))/\
 (((TV.v (AV.int .i64 (IntKind.wrap .i64 (((i22:Nat):Int) + 1)))) = (TV.v (AV.int .i64 ((Y61.i x'27:Nat):Int))))/\
 (State.Le ((ls61 f ls s I Yes).3 x'27) σ'26))))))))))))))))/\
 (∀ σ'26:State,((Yes σ'26) -> (∃ σ127:State,((Yes σ127)/\
 ((Rf (TV.v (AV.bool true)))/\
 (State.Le σ127 σ'26))))))))))))))))))))))))))))))
 (∃ x'16:Y61,(((I (x'16))/\
 (((LS.μ (ls61 f ls s I Yes) x'16):Nat) < (LS.μ (ls61 f ls s I Yes) y)))/\
 ((Rf (TV.v (AV.int .i64 ((s:Nat):Int))))/\
 ((Rf (TV.v (AV.ptr (FI.oc f) 0)))/\
 ((Rf (TV.v (AV.ptr (FI.out f) 0)))/\
 ((Rf (TV.v (AV.ptr (FI.bc f) 0)))/\
 ((Rf (TV.v (AV.ptr (FI.ls f) 0)))/\
 ((Rf (TV.v (AV.ptr (FI.ac f) 0)))/\
 ((Rf (TV.v (AV.ptr (FI.fc f) 0)))/\
 (((TV.v (AV.int .i64 (IntKind.wrap .i64 (((Y61.w y:Nat):Int) * (IntKind.wrap .i64 ((((List.length (tcellL x0)):Nat):Int) + 1)))))) = (TV.v (AV.int .i64 ((Y61.w x'16:Nat):Int))))/\
 ((Rf (TV.v (AV.slice 1 (lsV ls) Cap.any)))/\
 ((Rf (TV.v (AV.int .i64 (((List.length (lsV ls)):Nat):Int))))/\
 (((TV.v (AV.int .i64 (IntKind.wrap .i64 (((Y61.i y:Nat):Int) + 1)))) = (TV.v (AV.int .i64 ((Y61.i x'16:Nat):Int))))/\
 (State.Le ((ls61 f ls s I Yes).3 x'16) (State.untok (y.1)))))))))))))))))))))))))))))))))))))))))))))))
 (∃ x'5:Y61,(((I (x'5))/\
 (((LS.μ (ls61 f ls s I Yes) x'5):Nat) < (LS.μ (ls61 f ls s I Yes) y)))/\
 ((Rf (TV.v (AV.int .i64 ((s:Nat):Int))))/\
 ((Rf (TV.v (AV.ptr (FI.oc f) 0)))/\
 ((Rf (TV.v (AV.ptr (FI.out f) 0)))/\
 ((Rf (TV.v (AV.ptr (FI.bc f) 0)))/\
 ((Rf (TV.v (AV.ptr (FI.ls f) 0)))/\
 ((Rf (TV.v (AV.ptr (FI.ac f) 0)))/\
 ((Rf (TV.v (AV.ptr (FI.fc f) 0)))/\
 (((TV.v (AV.int .i64 (IntKind.wrap .i64 (((Y61.w y:Nat):Int) * (IntKind.wrap .i64 ((((List.length (tcellL x0)):Nat):Int) + 1)))))) = (TV.v (AV.int .i64 ((Y61.w x'5:Nat):Int))))/\
 ((Rf (TV.v (AV.slice 1 (lsV ls) Cap.any)))/\
 ((Rf (TV.v (AV.int .i64 (((List.length (lsV ls)):Nat):Int))))/\
 (((TV.v (AV.int .i64 (IntKind.wrap .i64 (((Y61.i y:Nat):Int) + 1)))) = (TV.v (AV.int .i64 ((Y61.i x'5:Nat):Int))))/\
 (State.Le ((ls61 f ls s I Yes).3 x'5) (y.1))))))))))))))))))))))))))))))
 ((((Y61.i y:Nat) < (List.length (ls))) -> False)/\
 ((Rf (TV.v (AV.int .i64 ((s:Nat):Int))))/\
 ((Rf (TV.v (AV.ptr (FI.bc f) 0)))/\
 (State.Le (y.1) (y.1))))))):=by kernel_rfl
theorem vc61c (B:Nat) (w0:World) (G:Nat -> AV) (f:FI) (ls:List (List T)) (out:List T) (S N s i w:Nat) (l:List T) (P R:Nat -> Nat -> List T -> State -> Prop) (R0 Yes:State -> Prop) (σ:State):(wpX cuts61 (EV B w0 G) (H61 (EV B w0 G) f ls out S N) (handL [(12,T61p f ls s P R Yes)]) (annA 61) (N61 f ls out) (part61c Tryz.prog) (P61 (F61b f ls s i w l) R0 Yes) (frm (F61b f ls s i w l) []) σ) =
 ((∃ a0:OE,(((State.objs σ (FI.oc f)) = (AObj.cells (OE.cs a0) 26 1 (OE.g a0)))/\
 (((0:Nat) < (List.length (OE.cs a0)))/\
 ((((List.getD (OE.cs a0) 0 AV.undef) = AV.nilslice)/\
 ((((8:Nat) <= 140737488355328)/\
 ((1:Nat) <= 4611686018427387904))/\
 (∃ a1:OE,(((State.objs (State.new σ (AObj.cells [(AV.int .i64 ((i:Nat):Int))] 3 1 true)) (FI.oc f)) = (AObj.cells (OE.cs a1) 26 1 (OE.g a1)))/\
 (((1:Nat) <= (List.length (OE.cs a1)))/\
 (∃ i2:Nat,(∃ w3:Nat,(∃ l4:List T,(∃ σ05:State,((P (i2) (w3) (l4) σ05)/\
 (((Rf (TV.v (AV.int .i64 ((s:Nat):Int))))/\
 ((Rf (TV.v (AV.ptr (FI.oc f) 0)))/\
 ((Rf (TV.v (AV.ptr (FI.out f) 0)))/\
 ((Rf (TV.v (AV.ptr (FI.bc f) 0)))/\
 ((Rf (TV.v (AV.ptr (FI.ls f) 0)))/\
 ((Rf (TV.v (AV.ptr (FI.ac f) 0)))/\
 ((Rf (TV.v (AV.ptr (FI.fc f) 0)))/\
 (((TV.v (AV.int .i64 ((w:Nat):Int))) = (TV.v (AV.int .i64 ((w3:Nat):Int))))/\
 (((TV.v (AV.int .i64 ((i:Nat):Int))) = (TV.v (AV.int .i64 ((i2:Nat):Int))))/\
 (((TV.v (AV.slice 4 (tcellL l) Cap.any)) = (TV.v (AV.slice 4 (tcellL l4) Cap.any)))/\
 ((Rf (TV.v (AV.slice 1 (lsV ls) Cap.any)))/\
 ((Rf (TV.v (AV.int .i64 (((List.length (lsV ls)):Nat):Int))))/\
 (((TV.v (AV.int .i64 ((i:Nat):Int))) = (TV.v (AV.int .i64 ((i2:Nat):Int))))/\
 (State.Le σ05 (State.set (State.new σ (AObj.cells [(AV.int .i64 ((i:Nat):Int))] 3 1 true)) (FI.oc f) (AObj.cells (asplice (OE.cs a1) 0 [(AV.rslice (State.next σ) 0 1)]) 26 1 (OE.g a1)))))))))))))))))/\
 ((∀ σ'6:State,((R (i2) (w3) (l4) σ'6) -> (∃ σ17:State,((R0 σ17)/\
 ((Rf (TV.v (AV.int .i64 ((s:Nat):Int))))/\
 ((Rf (TV.v (AV.ptr (FI.oc f) 0)))/\
 ((Rf (TV.v (AV.ptr (FI.out f) 0)))/\
 ((Rf (TV.v (AV.ptr (FI.bc f) 0)))/\
 ((Rf (TV.v (AV.ptr (FI.ls f) 0)))/\
 ((Rf (TV.v (AV.ptr (FI.ac f) 0)))/\
 ((Rf (TV.v (AV.ptr (FI.fc f) 0)))/\
 (((TV.v (AV.int .i64 ((w3:Nat):Int))) = (TV.v (AV.int .i64 ((w:Nat):Int))))/\
 (((TV.v (AV.int .i64 ((i2:Nat):Int))) = (TV.v (AV.int .i64 ((i:Nat):Int))))/\
 (((TV.v (AV.slice 4 (tcellL l4) Cap.any)) = (TV.v (AV.slice 4 (tcellL l) Cap.any)))/\
 ((Rf (TV.v (AV.slice 1 (lsV ls) Cap.any)))/\
 ((Rf (TV.v (AV.int .i64 (((List.length (lsV ls)):Nat):Int))))/\
 (((TV.v (AV.int .i64 ((i2:Nat):Int))) = (TV.v (AV.int .i64 ((i:Nat):Int))))/\
 (State.Le σ17 σ'6))))))))))))))))))/\
 (∀ σ'6:State,((Yes σ'6) -> (∃ σ17:State,((Yes σ17)/\
 ((Rf (TV.v (AV.bool true)))/\
 (State.Le σ17 σ'6)))))))))))))))))) \/ (∃ x1:RS,(((List.getD (OE.cs a0) 0 AV.undef) = (AV.rslice (RS.id x1) 0 (RS.n x1)))/\
 (∃ a2:OE,(((State.objs σ (RS.id x1)) = (AObj.cells (OE.cs a2) 3 1 (OE.g a2)))/\
 ((((0:Nat) = 0)/\
 (((((((RS.n x1) + 1) * 8):Nat) <= 140737488355328)/\
 ((((RS.n x1) + 1):Nat) <= 4611686018427387904))/\
 ((((RS.n x1) * 1):Nat) <= (List.length (OE.cs a2)))))/\
 (∃ a3:OE,(((State.objs (State.new (State.set σ (RS.id x1) AObj.dead) (AObj.cells ((List.take ((RS.n x1) * 1) (OE.cs a2)) ++ [(AV.int .i64 ((i:Nat):Int))]) 3 1 true)) (FI.oc f)) = (AObj.cells (OE.cs a3) 26 1 (OE.g a3)))/\
 (((1:Nat) <= (List.length (OE.cs a3)))/\
 (∃ i4:Nat,(∃ w5:Nat,(∃ l6:List T,(∃ σ07:State,((P (i4) (w5) (l6) σ07)/\
 (((Rf (TV.v (AV.int .i64 ((s:Nat):Int))))/\
 ((Rf (TV.v (AV.ptr (FI.oc f) 0)))/\
 ((Rf (TV.v (AV.ptr (FI.out f) 0)))/\
 ((Rf (TV.v (AV.ptr (FI.bc f) 0)))/\
 ((Rf (TV.v (AV.ptr (FI.ls f) 0)))/\
 ((Rf (TV.v (AV.ptr (FI.ac f) 0)))/\
 ((Rf (TV.v (AV.ptr (FI.fc f) 0)))/\
 (((TV.v (AV.int .i64 ((w:Nat):Int))) = (TV.v (AV.int .i64 ((w5:Nat):Int))))/\
 (((TV.v (AV.int .i64 ((i:Nat):Int))) = (TV.v (AV.int .i64 ((i4:Nat):Int))))/\
 (((TV.v (AV.slice 4 (tcellL l) Cap.any)) = (TV.v (AV.slice 4 (tcellL l6) Cap.any)))/\
 ((Rf (TV.v (AV.slice 1 (lsV ls) Cap.any)))/\
 ((Rf (TV.v (AV.int .i64 (((List.length (lsV ls)):Nat):Int))))/\
 (((TV.v (AV.int .i64 ((i:Nat):Int))) = (TV.v (AV.int .i64 ((i4:Nat):Int))))/\
 (State.Le σ07 (State.set (State.new (State.set σ (RS.id x1) AObj.dead) (AObj.cells ((List.take ((RS.n x1) * 1) (OE.cs a2)) ++ [(AV.int .i64 ((i:Nat):Int))]) 3 1 true)) (FI.oc f) (AObj.cells (asplice (OE.cs a3) 0 [(AV.rslice (State.next σ) 0 ((RS.n x1) + 1))]) 26 1 (OE.g a3)))))))))))))))))/\
 ((∀ σ'8:State,((R (i4) (w5) (l6) σ'8) -> (∃ σ19:State,((R0 σ19)/\
 ((Rf (TV.v (AV.int .i64 ((s:Nat):Int))))/\
 ((Rf (TV.v (AV.ptr (FI.oc f) 0)))/\
 ((Rf (TV.v (AV.ptr (FI.out f) 0)))/\
 ((Rf (TV.v (AV.ptr (FI.bc f) 0)))/\
 ((Rf (TV.v (AV.ptr (FI.ls f) 0)))/\
 ((Rf (TV.v (AV.ptr (FI.ac f) 0)))/\
 ((Rf (TV.v (AV.ptr (FI.fc f) 0)))/\
 (((TV.v (AV.int .i64 ((w5:Nat):Int))) = (TV.v (AV.int .i64 ((w:Nat):Int))))/\
 (((TV.v (AV.int .i64 ((i4:Nat):Int))) = (TV.v (AV.int .i64 ((i:Nat):Int))))/\
 (((TV.v (AV.slice 4 (tcellL l6) Cap.any)) = (TV.v (AV.slice 4 (tcellL l) Cap.any)))/\
 ((Rf (TV.v (AV.slice 1 (lsV ls) Cap.any)))/\
 ((Rf (TV.v (AV.int .i64 (((List.length (lsV ls)):Nat):Int))))/\
 (((TV.v (AV.int .i64 ((i4:Nat):Int))) = (TV.v (AV.int .i64 ((i:Nat):Int))))/\
 (State.Le σ19 σ'8))))))))))))))))))/\
 (∀ σ'8:State,((Yes σ'8) -> (∃ σ19:State,((Yes σ19)/\
 ((Rf (TV.v (AV.bool true)))/\
 (State.Le σ19 σ'8)))))))))))))))))))))))))):=by kernel_rfl
theorem vc61d (B:Nat) (w0:World) (G:Nat -> AV) (f:FI) (ls:List (List T)) (out:List T) (S N s i w:Nat) (l:List T) (R0 Yes:State -> Prop) (σ:State):(wpX cuts61 (EV B w0 G) (H61 (EV B w0 G) f ls out S N) (fun _ _ _ _ => False) (annA 61) (N61 f ls out) (part61d Tryz.prog) (P61 (F61b f ls s i w l) R0 Yes) (frm (F61b f ls s i w l) []) σ) =
 ((∃ a0:Bool,(((State.objs σ (FI.fc f)) = (AObj.cells [(AV.func (Go.Fn.func 61) [] [(AV.ptr (FI.oc f) 0),(AV.ptr (FI.out f) 0),(AV.ptr (FI.bc f) 0),(AV.ptr (FI.ls f) 0),(AV.ptr (FI.ac f) 0),(AV.ptr (FI.fc f) 0)])] 123 1 (a0)))/\
 (((0:Nat) < 1)/\
 (∃ s1:Nat,(∃ p2:List Nat,(∃ order3:List Nat,(∃ bad4:List Bool,(([(AV.int .i64 (IntKind.wrap .i64 (((s:Nat):Int) + ((w:Nat):Int)))),(AV.ptr (FI.oc f) 0),(AV.ptr (FI.out f) 0),(AV.ptr (FI.bc f) 0),(AV.ptr (FI.ls f) 0),(AV.ptr (FI.ac f) 0),(AV.ptr (FI.fc f) 0)] = [(AV.int .i64 ((s1:Nat):Int)),(AV.ptr (FI.oc f) 0),(AV.ptr (FI.out f) 0),(AV.ptr (FI.bc f) 0),(AV.ptr (FI.ls f) 0),(AV.ptr (FI.ac f) 0),(AV.ptr (FI.fc f) 0)])/\
 ((FPre (f) (ls) (out) (N) (s1) (p2) (order3) (bad4) σ)/\
 ((∀ σ'5:State,((FYes f ls out p2 order3 σ'5) -> (∃ σ16:State,((Yes σ16)/\
 ((Rf (TV.v (AV.bool true)))/\
 (State.Le σ16 σ'5))))))/\
 (∀ σ'5:State,((FNo f ls out p2 order3 σ'5) -> (∃ a6:OE,(((State.objs σ'5 (FI.oc f)) = (AObj.cells (OE.cs a6) 26 1 (OE.g a6)))/\
 (((0:Nat) < (List.length (OE.cs a6)))/\
 (∃ x7:RS,(((List.getD (OE.cs a6) 0 AV.undef) = (AV.rslice (RS.id x7) 0 (RS.n x7)))/\
 (∃ a8:OE,(((State.objs σ'5 (FI.oc f)) = (AObj.cells (OE.cs a8) 26 1 (OE.g a8)))/\
 (((0:Nat) < (List.length (OE.cs a8)))/\
 (∃ x9:RS,(((List.getD (OE.cs a8) 0 AV.undef) = (AV.rslice (RS.id x9) 0 (RS.n x9)))/\
 (∃ a10:OE,(((State.objs σ'5 (RS.id x7)) = (AObj.cells (OE.cs a10) 3 1 (OE.g a10)))/\
 ((((0:Int) <= (IntKind.wrap .i64 (((RS.n x9:Nat):Int) - 1)))/\
 (((IntKind.wrap .i64 (((RS.n x9:Nat):Int) - 1)):Int) <= ((RS.n x7:Nat):Int)))/\
 (∃ a11:OE,(((State.objs σ'5 (FI.oc f)) = (AObj.cells (OE.cs a11) 26 1 (OE.g a11)))/\
 (((1:Nat) <= (List.length (OE.cs a11)))/\
 (∃ a12:Bool,(((State.objs (State.set σ'5 (FI.oc f) (AObj.cells (asplice (OE.cs a11) 0 [(AV.rslice (RS.id x7) 0 ((Int.toNat (IntKind.wrap .i64 (((RS.n x9:Nat):Int) - 1))) - 0))]) 26 1 (OE.g a11))) (FI.ac f)) = (AObj.cells [(AV.rslice (FI.ao f) 0 (List.length (ls)))] 26 1 (a12)))/\
 (((0:Nat) < 1)/\
 (∃ a13:OE,(((State.objs (State.set σ'5 (FI.oc f) (AObj.cells (asplice (OE.cs a11) 0 [(AV.rslice (RS.id x7) 0 ((Int.toNat (IntKind.wrap .i64 (((RS.n x9:Nat):Int) - 1))) - 0))]) 26 1 (OE.g a11))) (FI.ao f)) = (AObj.cells (OE.cs a13) 3 1 (OE.g a13)))/\
 ((((0:Int) <= ((i:Nat):Int))/\
 ((((i:Nat):Int):Int) < (((List.length (ls)):Nat):Int)))/\
 (∃ a14:OE,(((State.objs (State.set σ'5 (FI.oc f) (AObj.cells (asplice (OE.cs a11) 0 [(AV.rslice (RS.id x7) 0 ((Int.toNat (IntKind.wrap .i64 (((RS.n x9:Nat):Int) - 1))) - 0))]) 26 1 (OE.g a11))) (FI.ao f)) = (AObj.cells (OE.cs a14) 3 1 (OE.g a14)))/\
 (((((0 + (Int.toNat ((i:Nat):Int))) * 1):Nat) < (List.length (OE.cs a14)))/\
 (∃ x15:Nat,(((List.getD (OE.cs a14) ((0 + Int.toNat (↑i:Int)) * 1) AV.undef) = (AV.int .i64 ((x15:Nat):Int)))/\
 (∃ a16:OE,(((State.objs (State.set σ'5 (FI.oc f) (AObj.cells (asplice (OE.cs a11) 0 [(AV.rslice (RS.id x7) 0 ((Int.toNat (IntKind.wrap .i64 (((RS.n x9:Nat):Int) - 1))) - 0))]) 26 1 (OE.g a11))) (FI.ao f)) = (AObj.cells (OE.cs a16) 3 1 (OE.g a16)))/\
 ((((0:Int) <= ((i:Nat):Int))/\
 ((((i:Nat):Int):Int) < (((List.length (ls)):Nat):Int)))/\
 (∃ a17:OE,(((State.objs (State.set σ'5 (FI.oc f) (AObj.cells (asplice (OE.cs a11) 0 [(AV.rslice (RS.id x7) 0 ((Int.toNat (IntKind.wrap .i64 (((RS.n x9:Nat):Int) - 1))) - 0))]) 26 1 (OE.g a11))) (FI.ao f)) = (AObj.cells (OE.cs a17) 3 1 (OE.g a17)))/\
 ((((((0 + (Int.toNat ((i:Nat):Int))) * 1) + 1):Nat) <= (List.length (OE.cs a17)))/\
 (∃ σ118:State,((R0 σ118)/\
 ((Rf (TV.v (AV.int .i64 ((s:Nat):Int))))/\
 ((Rf (TV.v (AV.ptr (FI.oc f) 0)))/\
 ((Rf (TV.v (AV.ptr (FI.out f) 0)))/\
 ((Rf (TV.v (AV.ptr (FI.bc f) 0)))/\
 ((Rf (TV.v (AV.ptr (FI.ls f) 0)))/\
 ((Rf (TV.v (AV.ptr (FI.ac f) 0)))/\
 ((Rf (TV.v (AV.ptr (FI.fc f) 0)))/\
 ((Rf (TV.v (AV.int .i64 ((w:Nat):Int))))/\
 ((Rf (TV.v (AV.int .i64 ((i:Nat):Int))))/\
 ((Rf (TV.v (AV.slice 4 (tcellL l) Cap.any)))/\
 ((Rf (TV.v (AV.slice 1 (lsV ls) Cap.any)))/\
 ((Rf (TV.v (AV.int .i64 (((List.length (lsV ls)):Nat):Int))))/\
 ((Rf (TV.v (AV.int .i64 ((i:Nat):Int))))/\
 (State.Le σ118 (State.set (State.set σ'5 (FI.oc f) (AObj.cells (asplice (OE.cs a11) 0 [(AV.rslice (RS.id x7) 0 ((Int.toNat (IntKind.wrap .i64 (((RS.n x9:Nat):Int) - 1))) - 0))]) 26 1 (OE.g a11))) (FI.ao f) (AObj.cells (asplice (OE.cs a17) ((0 + (Int.toNat ((i:Nat):Int))) * 1) [(AV.int .i64 (IntKind.wrap .i64 (((x15:Nat):Int) - 1)))]) 3 1 (OE.g a17))))))))))))))))))))))))))))))))))))))))))))))))))))))))))))))))):=by kernel_rfl
def T61 (f:FI) (ls:List (List T)) (s:Nat) (I R:Y61 -> Prop) (Yes:State -> Prop):LHand:=fun _ Q a σ => ∃ y:Y61,I y /\ atF a ((ls61 f ls s I Yes).F y) [] (y.σ.Le σ) /\
 ((∀ y':Y61,R y' -> Q (.exit 0) (frm [(0,.v (.int .i64 (s:Int))),(3,.v (.ptr f.bc 0))] []) y'.σ) /\ (∀ σ':State,Yes σ' -> Q .ret (frm [(8,.v (.bool true))] []) σ'))
theorem vc61 (B:Nat) (w0:World) (G:Nat -> AV) (f:FI) (ls:List (List T)) (out:List T) (S N s:Nat) (I R:Y61 -> Prop) (Yes:State -> Prop) (σ:State) (Q:AV -> State -> Prop):(bodyX cuts61 (EV B w0 G) (H61 (EV B w0 G) f ls out S N) (T61 f ls s I R Yes) annA (N61 f ls out) 61 (.int .i64 (s:Int) :: f.caps) σ Q) =
 ((∃ a0:OE,(((State.objs σ (FI.oc f)) = (AObj.cells (OE.cs a0) 26 1 (OE.g a0)))/\
 (((0:Nat) < (List.length (OE.cs a0)))/\
 ((((List.getD (OE.cs a0) 0 AV.undef) = AV.nilslice)/\
 (∃ a1:Bool,(((State.objs σ (FI.out f)) = (AObj.cells [(AV.slice 4 (tcellL out) Cap.any)] 23 1 (a1)))/\
 (((0:Nat) < 1)/\
 (bcase ((0:Int) == (((List.length (tcellL out)):Nat):Int))
 (Q (AV.bool true) σ)
 (∃ a2:Bool,(((State.objs σ (FI.bc f)) = (AObj.cells [(AV.rslice (FI.bo f) 0 (prodL ls))] 122 1 (a2)))/\
 (((0:Nat) < 1)/\
 (∃ a3:OE,(((State.objs σ (FI.bo f)) = (AObj.cells (OE.cs a3) 4 1 (OE.g a3)))/\
 ((((0:Int) <= ((s:Nat):Int))/\
 ((((s:Nat):Int):Int) < ((prodL ls:Nat):Int)))/\
 (∃ a4:OE,(((State.objs σ (FI.bo f)) = (AObj.cells (OE.cs a4) 4 1 (OE.g a4)))/\
 (((((0 + (Int.toNat ((s:Nat):Int))) * 1):Nat) < (List.length (OE.cs a4)))/\
 (∃ x5:Bool,(((List.getD (OE.cs a4) ((0 + Int.toNat (↑s:Int)) * 1) AV.undef) = (AV.bool (x5)))/\
 (bcase (x5)
 (Q (AV.bool false) σ)
 (∃ a6:Bool,(((State.objs σ (FI.ls f)) = (AObj.cells [(AV.slice 1 (lsV ls) Cap.any)] 22 1 (a6)))/\
 (((0:Nat) < 1)/\
 (∃ y7:Y61,((I (y7))/\
 (((Rf (TV.v (AV.int .i64 ((s:Nat):Int))))/\
 ((Rf (TV.v (AV.ptr (FI.oc f) 0)))/\
 ((Rf (TV.v (AV.ptr (FI.out f) 0)))/\
 ((Rf (TV.v (AV.ptr (FI.bc f) 0)))/\
 ((Rf (TV.v (AV.ptr (FI.ls f) 0)))/\
 ((Rf (TV.v (AV.ptr (FI.ac f) 0)))/\
 ((Rf (TV.v (AV.ptr (FI.fc f) 0)))/\
 (((TV.v (AV.int .i64 1)) = (TV.v (AV.int .i64 ((Y61.w y7:Nat):Int))))/\
 ((Rf (TV.v (AV.slice 1 (lsV ls) Cap.any)))/\
 ((Rf (TV.v (AV.int .i64 (((List.length (lsV ls)):Nat):Int))))/\
 (((TV.v (AV.int .i64 0)) = (TV.v (AV.int .i64 ((Y61.i y7:Nat):Int))))/\
 (State.Le (y7.1) σ))))))))))))/\
 ((∀ y'8:Y61,((R (y'8)) -> (∃ a9:Bool,(((State.objs (y'8.1) (FI.bc f)) = (AObj.cells [(AV.rslice (FI.bo f) 0 (prodL ls))] 122 1 (a9)))/\
 (((0:Nat) < 1)/\
 (∃ a10:OE,(((State.objs (y'8.1) (FI.bo f)) = (AObj.cells (OE.cs a10) 4 1 (OE.g a10)))/\
 ((((0:Int) <= ((s:Nat):Int))/\
 ((((s:Nat):Int):Int) < ((prodL ls:Nat):Int)))/\
 (∃ a11:OE,(((State.objs (y'8.1) (FI.bo f)) = (AObj.cells (OE.cs a11) 4 1 (OE.g a11)))/\
 ((((((0 + (Int.toNat ((s:Nat):Int))) * 1) + 1):Nat) <= (List.length (OE.cs a11)))/\
 (Q (AV.bool false) (State.set (y'8.1) (FI.bo f) (AObj.cells (asplice (OE.cs a11) ((0 + (Int.toNat ((s:Nat):Int))) * 1) [(AV.bool true)]) 4 1 (OE.g a11)))))))))))))))/\
 (∀ σ'8:State,((Yes σ'8) -> (Q (AV.bool true) σ'8))))))))))))))))))))))))))) \/ (∃ x1:RS,(((List.getD (OE.cs a0) 0 AV.undef) = (AV.rslice (RS.id x1) 0 (RS.n x1)))/\
 (∃ a2:Bool,(((State.objs σ (FI.out f)) = (AObj.cells [(AV.slice 4 (tcellL out) Cap.any)] 23 1 (a2)))/\
 (((0:Nat) < 1)/\
 (bcase ((((RS.n x1:Nat):Int):Int) == (((List.length (tcellL out)):Nat):Int))
 (Q (AV.bool true) σ)
 (∃ a3:Bool,(((State.objs σ (FI.bc f)) = (AObj.cells [(AV.rslice (FI.bo f) 0 (prodL ls))] 122 1 (a3)))/\
 (((0:Nat) < 1)/\
 (∃ a4:OE,(((State.objs σ (FI.bo f)) = (AObj.cells (OE.cs a4) 4 1 (OE.g a4)))/\
 ((((0:Int) <= ((s:Nat):Int))/\
 ((((s:Nat):Int):Int) < ((prodL ls:Nat):Int)))/\
 (∃ a5:OE,(((State.objs σ (FI.bo f)) = (AObj.cells (OE.cs a5) 4 1 (OE.g a5)))/\
 (((((0 + (Int.toNat ((s:Nat):Int))) * 1):Nat) < (List.length (OE.cs a5)))/\
 (∃ x6:Bool,(((List.getD (OE.cs a5) ((0 + Int.toNat (↑s:Int)) * 1) AV.undef) = (AV.bool (x6)))/\
 (bcase (x6)
 (Q (AV.bool false) σ)
 (∃ a7:Bool,(((State.objs σ (FI.ls f)) = (AObj.cells [(AV.slice 1 (lsV ls) Cap.any)] 22 1 (a7)))/\
 (((0:Nat) < 1)/\
 (∃ y8:Y61,((I (y8))/\
 (((Rf (TV.v (AV.int .i64 ((s:Nat):Int))))/\
 ((Rf (TV.v (AV.ptr (FI.oc f) 0)))/\
 ((Rf (TV.v (AV.ptr (FI.out f) 0)))/\
 ((Rf (TV.v (AV.ptr (FI.bc f) 0)))/\
 ((Rf (TV.v (AV.ptr (FI.ls f) 0)))/\
 ((Rf (TV.v (AV.ptr (FI.ac f) 0)))/\
 ((Rf (TV.v (AV.ptr (FI.fc f) 0)))/\
 (((TV.v (AV.int .i64 1)) = (TV.v (AV.int .i64 ((Y61.w y8:Nat):Int))))/\
 ((Rf (TV.v (AV.slice 1 (lsV ls) Cap.any)))/\
 ((Rf (TV.v (AV.int .i64 (((List.length (lsV ls)):Nat):Int))))/\
 (((TV.v (AV.int .i64 0)) = (TV.v (AV.int .i64 ((Y61.i y8:Nat):Int))))/\
 (State.Le (y8.1) σ))))))))))))/\
 ((∀ y'9:Y61,((R (y'9)) -> (∃ a10:Bool,(((State.objs (y'9.1) (FI.bc f)) = (AObj.cells [(AV.rslice (FI.bo f) 0 (prodL ls))] 122 1 (a10)))/\
 (((0:Nat) < 1)/\
 (∃ a11:OE,(((State.objs (y'9.1) (FI.bo f)) = (AObj.cells (OE.cs a11) 4 1 (OE.g a11)))/\
 ((((0:Int) <= ((s:Nat):Int))/\
 ((((s:Nat):Int):Int) < ((prodL ls:Nat):Int)))/\
 (∃ a12:OE,(((State.objs (y'9.1) (FI.bo f)) = (AObj.cells (OE.cs a12) 4 1 (OE.g a12)))/\
 ((((((0 + (Int.toNat ((s:Nat):Int))) * 1) + 1):Nat) <= (List.length (OE.cs a12)))/\
 (Q (AV.bool false) (State.set (y'9.1) (FI.bo f) (AObj.cells (asplice (OE.cs a12) ((0 + (Int.toNat ((s:Nat):Int))) * 1) [(AV.bool true)]) 4 1 (OE.g a12)))))))))))))))/\
 (∀ σ'9:State,((Yes σ'9) -> (Q (AV.bool true) σ'9))))))))))))))))))))))))))))))))):=by kernel_rfl
end Go.V
/- The search of Check: plain laws. -/
set_option linter.unusedSimpArgs false
namespace Go.V
open Go Go.Proofs

theorem Bnd.len:∀ {ls:List (List T)} {p:List Nat},Bnd ls p -> p.length = ls.length
 | [],[],_ => rfl
 | l :: ls,a :: p,h => by rw [List.length_cons,List.length_cons,Bnd.len h.2]
 | [],a :: p,h => h.elim
 | l :: ls,[],h => h.elim
theorem Bnd.le:∀ {ls:List (List T)} {p:List Nat} {i:Nat} {l:List T},Bnd ls p -> ls[i]? = some l -> p.getD i 0 <= l.length
 | [],[],i,l,_,h => by simp at h
 | m :: ls,a :: p,0,l,hb,h => by
  obtain rfl:m = l:=by simpa using h
  exact hb.1
 | m :: ls,a :: p,i + 1,l,hb,h => by
  have:=Bnd.le (i:=i) hb.2 (l:=l) (by simpa using h)
  simpa using this
 | [],a :: p,_,_,h,_ => h.elim
 | l :: ls,[],_,_,h,_ => h.elim
theorem Bnd.set:∀ {ls:List (List T)} {p:List Nat} {i a:Nat} {l:List T},Bnd ls p -> ls[i]? = some l -> a <= l.length -> Bnd ls (p.set i a)
 | [],[],i,a,l,_,h,_ => by simp at h
 | m :: ls,b :: p,0,a,l,hb,h,ha => by
  obtain rfl:m = l:=by simpa using h
  exact ⟨ha,hb.2⟩
 | m :: ls,b :: p,i + 1,a,l,hb,h,ha => ⟨hb.1,Bnd.set hb.2 (by simpa using h) ha⟩
 | [],a :: p,_,_,_,h,_,_ => h.elim
 | l :: ls,[],_,_,_,h,_,_ => h.elim
theorem Bnd.sum:∀ {ls:List (List T)} {p:List Nat},Bnd ls p -> p.sum <= sumL ls
 | [],[],_ => Nat.zero_le _
 | l :: ls,a :: p,h => by
  have h1:=Bnd.sum h.2
  have h2:=h.1
  have e:sumL (l :: ls) = l.length + sumL ls:=by unfold sumL; simp
  rw [List.sum_cons,e]; omega
 | [],a :: p,h => h.elim
 | l :: ls,[],h => h.elim
theorem sum_set:∀ {p:List Nat} {i:Nat},i < p.length -> (p.set i (p.getD i 0 + 1)).sum = p.sum + 1
 | [],i,h => by simp at h
 | a :: p,0,h => by simp; omega
 | a :: p,i + 1,h => by
  have:=sum_set (p:=p) (i:=i) (by simpa using h)
  simp only [List.set_cons_succ,List.sum_cons,List.getD_cons_succ] at this ⊢
  omega
theorem prodL_pos:∀ ls:List (List T),1 <= prodL ls
 | [] => Nat.le_refl _
 | l :: ls => by
  have:=prodL_pos ls
  show 1 <= (l.length + 1) * prodL ls
  exact Nat.le_trans this (Nat.le_mul_of_pos_left _ (by omega))
theorem prodL_append:∀ a b:List (List T),prodL (a ++ b) = prodL a * prodL b
 | [],b => by show prodL b = 1 * prodL b; omega
 | l :: a,b => by
  show (l.length + 1) * prodL (a ++ b) = (l.length + 1) * prodL a * prodL b
  rw [prodL_append a b,Nat.mul_assoc]
theorem prodL_take {ls:List (List T)} {i:Nat} {l:List T} (h:ls[i]? = some l):prodL (ls.take (i + 1)) = prodL (ls.take i) * (l.length + 1):=by
 have hi:i < ls.length:=by
  rcases Nat.lt_or_ge i ls.length with k | k
  ·exact k
  ·rw [List.getElem?_eq_none k] at h; cases h
 rw [List.getElem?_eq_getElem hi] at h
 cases h
 rw [List.take_succ_eq_append_getElem hi,prodL_append]
 show _ * ((ls[i].length + 1) * 1) = _
 rw [Nat.mul_one]
theorem prodL_take_le (ls:List (List T)) (i:Nat):prodL (ls.take i) <= prodL ls:=by
 have:=prodL_append (ls.take i) (ls.drop i)
 rw [List.take_append_drop] at this
 rw [this]
 exact Nat.le_mul_of_pos_right _ (prodL_pos _)
theorem codeL_set:∀ {ls:List (List T)} {p:List Nat} {i:Nat},Bnd ls p -> i < ls.length -> codeL ls (p.set i (p.getD i 0 + 1)) = codeL ls p + prodL (ls.take i)
 | [],[],i,_,h => by simp at h
 | l :: ls,a :: p,0,_,h => by
  show a + 1 + _ * codeL ls p = a + _ * codeL ls p + 1
  omega
 | l :: ls,a :: p,i + 1,hb,h => by
  have ih:=codeL_set (i:=i) hb.2 (by simpa using h)
  show a + (l.length + 1) * codeL ls (p.set i (p.getD i 0 + 1)) = a + (l.length + 1) * codeL ls p + (l.length + 1) * prodL (ls.take i)
  rw [ih,Nat.mul_add]; omega
 | [],a :: p,_,h,_ => h.elim
 | l :: ls,[],_,h,_ => h.elim
theorem codeL_lt:∀ {ls:List (List T)} {p:List Nat},Bnd ls p -> codeL ls p < prodL ls
 | [],[],_ => Nat.zero_lt_one
 | l :: ls,a :: p,h => by
  have ih:=codeL_lt h.2
  have h1:=h.1
  show a + (l.length + 1) * codeL ls p < (l.length + 1) * prodL ls
  have:(l.length + 1) * (codeL ls p + 1) <= (l.length + 1) * prodL ls:=Nat.mul_le_mul_left _ ih
  rw [Nat.mul_add] at this
  omega
 | [],a :: p,h => h.elim
 | l :: ls,[],h => h.elim
theorem codeL_inj:∀ {ls:List (List T)} {p q:List Nat},Bnd ls p -> Bnd ls q -> codeL ls p = codeL ls q -> p = q
 | [],[],[],_,_,_ => rfl
 | l :: ls,a :: p,b :: q,hp,hq,h => by
  have h:a + (l.length + 1) * codeL ls p = b + (l.length + 1) * codeL ls q:=h
  have h1:=hp.1
  have h2:=hq.1
  have e1:a = b:=by
   have:=congrArg (· % (l.length + 1)) h
   simp only [Nat.add_mul_mod_self_left] at this
   rw [Nat.mod_eq_of_lt (by omega),Nat.mod_eq_of_lt (by omega)] at this
   exact this
  subst e1
  have e2:(l.length + 1) * codeL ls p = (l.length + 1) * codeL ls q:=by omega
  rw [codeL_inj hp.2 hq.2 (Nat.eq_of_mul_eq_mul_left (by omega) e2)]
 | [],a :: p,_,h,_,_ => h.elim
 | l :: ls,[],_,h,_,_ => h.elim
 | [],[],b :: q,_,h,_ => h.elim
 | l :: ls,a :: p,[],_,h,_ => h.elim

theorem tryI_none {f:Nat -> Option (List Nat)}:∀ {l:List Nat},(∀ j ∈ l,f j = none) -> tryI f l = none
 | [],_ => rfl
 | i :: r,h => by
  unfold tryI
  rw [h i List.mem_cons_self]
  exact tryI_none fun j hj => h j (List.mem_cons_of_mem _ hj)
theorem tryI_append {f:Nat -> Option (List Nat)}:∀ {a b:List Nat},(∀ j ∈ a,f j = none) -> tryI f (a ++ b) = tryI f b
 | [],b,_ => rfl
 | i :: r,b,h => by
  show (match f i with | some o => some o | none => tryI f (r ++ b)) = tryI f b
  rw [h i List.mem_cons_self]
  exact tryI_append fun j hj => h j (List.mem_cons_of_mem _ hj)
theorem tryI_range {f:Nat -> Option (List Nat)} {n i:Nat} {o:List Nat} (hi:i < n) (h:∀ j < i,f j = none) (ho:f i = some o):tryI f (List.range n) = some o:=by
 have e:List.range n = List.range i ++ (i :: (List.range n).drop (i + 1)):=by
  have h1:List.range n = (List.range n).take i ++ (List.range n).drop i:=(List.take_append_drop _ _).symm
  have h2:(List.range n).take i = List.range i:=by rw [List.take_range]; congr 1; omega
  have h3:(List.range n).drop i = i :: (List.range n).drop (i + 1):=by
   rw [List.drop_eq_getElem_cons (by simpa using hi)]; simp
  rw [<-h3,<-h2]; exact h1
 rw [e,tryI_append fun j hj => h j (by simpa using hj)]
 unfold tryI
 rw [ho]

def cand (ls:List (List T)) (out:List T) (p:List Nat) (n i:Nat):Option (List Nat):=match goesOn ls out p n i with
 | true => (mgF ls out n (p.set i (p.getD i 0 + 1))).map (i :: ·)
 | false => none
theorem mgF_succ (ls:List (List T)) (out:List T) (p:List Nat) (n:Nat):mgF ls out (n + 1) p = tryI (cand ls out p n) (List.range ls.length):=by
 rw [mgF]; rfl
theorem mgF_none {ls:List (List T)} {out:List T} {p:List Nat} {n:Nat} (h:∀ j < ls.length,cand ls out p n j = none):mgF ls out (n + 1) p = none:=by
 rw [mgF_succ]; exact tryI_none fun j hj => h j (by simpa using hj)
theorem mgF_some {ls:List (List T)} {out:List T} {p:List Nat} {n i:Nat} {o:List Nat} (hi:i < ls.length) (h:∀ j < i,cand ls out p n j = none) (hg:goesOn ls out p n i = true)
  (ho:mgF ls out n (p.set i (p.getD i 0 + 1)) = some o):mgF ls out (n + 1) p = some (i :: o):=by
 rw [mgF_succ]
 refine tryI_range hi h ?_
 unfold cand; rw [hg,ho]; rfl
theorem goesOn_some {ls:List (List T)} {out:List T} {p:List Nat} {n i:Nat} {l:List T} {x y:T} (hl:ls[i]? = some l) (hx:l[p.getD i 0]? = some x) (hy:out[out.length - (n + 1)]? = some y):goesOn ls out p n i = same x y:=by
 unfold goesOn; rw [hl,Option.bind_some,hx,hy]
theorem goesOn_none {ls:List (List T)} {out:List T} {p:List Nat} {n i:Nat} {l:List T} (hl:ls[i]? = some l) (hx:l.length <= p.getD i 0):goesOn ls out p n i = false:=by
 unfold goesOn; rw [hl,Option.bind_some,List.getElem?_eq_none hx]
theorem goesOn_lt {ls:List (List T)} {out:List T} {p:List Nat} {n i:Nat} {l:List T} (hl:ls[i]? = some l) (h:goesOn ls out p n i = true):p.getD i 0 < l.length:=by
 rcases Nat.lt_or_ge (p.getD i 0) l.length with k | k
 ·exact k
 ·rw [goesOn_none hl k] at h; cases h
end Go.V
