/- A part of the proof of the statement S8 (texts brought together and shortened by a program of this work). -/
import Derived.Test.YtgnjidopnplbbaaGreatDoorQ36
set_option maxRecDepth 1000000
set_option linter.unusedVariables false
namespace Go.V
open Go Go.Proofs
variable (B:Nat) (w0:World) (G:Nat->AV)
def C160:zJC:=fun args σ K=>∃ l:List T,args=[slV l]/\((zS5 l=true/\l.length<=1000000)/\K (.tuple [slV (numTL (zS7 l) l),.slice 1 (zP9 (zS7 l)) .any]) σ.untok)
def zcY (l:List T) (vs:List Int) (I:zUC->Prop):LS zUC where
 F y:=[(0,.v (slV l)),(4,.v (.slice 1 (zP9 vs) .any)),(5,.v y.v),(6,.v (iZ (y.i:Int)))]
 FL _:=[]
 S y:=y.σ
 I:=I
 μ y:=l.length - y.i
 Ex y e a σ:=match e with
  | .exit 0=>¬ (y.i<l.length)/\atF a [(4,.v (.slice 1 (zP9 vs) .any)),(5,.v y.v)] [] (y.σ.Le σ)
  | _=>False
def H160 (E:Env) (N:Nat):zDY:=hnd E zHI zMU [(105,C105),(186,C186 N)]
theorem zcZ:zKE Tryz.prog [] 160=[.loop (lB 160 0)]:=by kernel_rfl
theorem vc160l (N:Nat) (l:List T) (vs:List Int) (I:zUC->Prop) (σ:zA6) (v:AV) (i:Nat):(wpX [] (EV B w0 G) (H160 (EV B w0 G) N) nL (zHI 160) (hAt [(6,0,zP6),(6,3,hT),(6,8,hEl 37 4)]) (lB 160 0) ((zcY l vs I).post ⟨σ,v,i⟩) (frm ((zcY l vs I).F ⟨σ,v,i⟩) []) σ) =
 (bcase (decide ((i:Int)<(List.length (tcellL l):Int)))
 ((v=AV.nilslice/\((0:Int)<=(i:Int)/\(i:Int)<(List.length (tcellL l):Int))/\∃ x0:T,AV.vptr (AV.cells (List.getD (tcellL l) (Int.toNat (↑i:Int)) AV.undef))=AV.vptr (tc x0)/\∃ t1:T,∃ vs2:List Int,[AV.agg (tc x0),AV.slice 1 (zP9 vs) Cap.any]=[AV.agg (tc t1),AV.slice 1 (zP9 vs2) Cap.any]/\(T.small t1/\SizeOf.sizeOf t1<N/\List.length vs2<=1000000)/\Bd0 56 1/\∃ x'3:zUC,(I x'3/\LS.μ (zcY l vs I) x'3<LS.μ (zcY l vs I) (zUC.mk σ v i))/\Rf (TV.v (sT l))/\Rf (TV.v (AV.slice 1 (zP9 vs) Cap.any))/\TV.v (AV.rslice (zA6.next σ) 0 1)=TV.v (zUC.v x'3)/\TV.v (iZ (IntKind.wrap .i64 ((i:Int)+1)))=TV.v (iZ (zUC.i x'3:Int))/\zA6.Le ((zcY l vs I).3 x'3) (zA6.new (Ut σ) (zA5.cells (tc (zcG vs2 t1)) 37 4 true)))\/∃ x0:RS,v=AV.rslice (RS.id x0) 0 (RS.n x0)/\((0:Int)<=(i:Int)/\(i:Int)<(List.length (tcellL l):Int))/\∃ x1:T,AV.vptr (AV.cells (List.getD (tcellL l) (Int.toNat (↑i:Int)) AV.undef))=AV.vptr (tc x1)/\∃ t2:T,∃ vs3:List Int,[AV.agg (tc x1),AV.slice 1 (zP9 vs) Cap.any]=[AV.agg (tc t2),AV.slice 1 (zP9 vs3) Cap.any]/\(T.small t2/\SizeOf.sizeOf t2<N/\List.length vs3<=1000000)/\∃ a4:OE,zA6.objs (Ut σ) (RS.id x0)=zA5.cells (OE.cs a4) 37 4 (OE.g a4)/\((0:Nat)=0/\Bd ((RS.n x0)+1) 56/\(((RS.n x0)*4):Nat)<=List.length (OE.cs a4))/\∃ x'5:zUC,(I x'5/\LS.μ (zcY l vs I) x'5<LS.μ (zcY l vs I) (zUC.mk σ v i))/\Rf (TV.v (sT l))/\Rf (TV.v (AV.slice 1 (zP9 vs) Cap.any))/\TV.v (AV.rslice (zA6.next σ) 0 ((RS.n x0)+1))=TV.v (zUC.v x'5)/\TV.v (iZ (IntKind.wrap .i64 ((i:Int)+1)))=TV.v (iZ (zUC.i x'5:Int))/\zA6.Le ((zcY l vs I).3 x'5) (zA6.new (zA6.set (Ut σ) (RS.id x0) zA5.dead) (zA5.cells ((List.take ((RS.n x0)*4) (OE.cs a4))++(tc (zcG vs3 t2))) 37 4 true)))
 (((i<List.length l)->False)/\Rf (TV.v (AV.slice 1 (zP9 vs) Cap.any))/\Rf (TV.v v)/\zA6.Le σ σ)):=by kernel_rfl
def T160 (l:List T) (vs:List Int) (I R:zUC->Prop):zFV:=fun _ Q a σ=>∃ y:zUC,I y/\atF a ((zcY l vs I).F y) [] (y.σ.Le σ)/\∀ y':zUC,R y'->Q (.exit 0) (frm [(4,.v (.slice 1 (zP9 vs) .any)),(5,.v y'.v)] []) y'.σ
theorem vc160 (N:Nat) (l:List T) (I R:zUC->Prop) (Q:AV->zA6->Prop):(zKD [] (EV B w0 G) (H160 (EV B w0 G) N) (T160 l (zS7 l) I R) zHI zMV 160 [slV l] zJZ Q) =
 (∃ l0:List T,[sT l]=[sT l0]/\(zS5 l0=true/\List.length l0<=1000000)/\∃ y1:zUC,I y1/\(Rf (TV.v (sT l))/\TV.v (AV.slice 1 (zP9 (zS7 l0)) Cap.any)=TV.v (AV.slice 1 (zP9 (zS7 l)) Cap.any)/\TV.v AV.nilslice=TV.v (zUC.v y1)/\TV.v (iZ 0)=TV.v (iZ (zUC.i y1:Int))/\zA6.Le y1.1 (Ut zJZ))/\(∀ y'2:zUC,((R y'2)->(Q (AV.tuple [zUC.v y'2,AV.slice 1 (zP9 (zS7 l)) Cap.any]) y'2.1)))):=by kernel_rfl
def C161:zJC:=fun args σ K=>∃ (c:Cl) (l:List T),args=[clV c,slV l]/\((l.length=c.all.length/\l.length<=1000000)/\K (clV ⟨c.mark,c.vars,l.take c.head.length,(l.drop c.head.length).take c.guard.length,l.drop (c.head.length+c.guard.length)⟩) σ.untok)
def N161:zIE:=hAt [(4,4,zIB.s),(4,5,zIB.s),(5,5,zIB.s),(5,6,zIB.s),(6,4,zIB.s),(6,5,zIB.s)]
theorem vc161 (c:Cl) (l:List T) (Q:AV->zA6->Prop):(zKD [] (EV B w0 G) (H0 (EV B w0 G)) nL zHI N161 161 [clV c,slV l] zJZ Q) =
 (((0:Int)<=(List.length (tcellL (Cl.head c)):Int)/\(List.length (tcellL (Cl.head c)):Int)<=(List.length (tcellL l):Int))/\bcase (List.isEmpty (List.drop 0 (List.take (Int.toNat (List.length (tcellL (Cl.head c)):Int)) (tcellL l))))
 (((0:Int)<=IntKind.wrap .i64 ((List.length (tcellL (Cl.head c)):Int)+(List.length (tcellL (Cl.guard c)):Int))/\((IntKind.wrap .i64 ((List.length (tcellL (Cl.head c)):Int)+(List.length (tcellL (Cl.guard c)):Int))):Int)<=(List.length (tcellL l):Int))/\((0:Int)<=(List.length (tcellL (Cl.head c)):Int)/\(List.length (tcellL (Cl.head c)):Int)<=(Int.toNat (IntKind.wrap .i64 ((List.length (tcellL (Cl.head c)):Int)+(List.length (tcellL (Cl.guard c)):Int))):Int))/\bcase (List.isEmpty (List.drop (Int.toNat (List.length (tcellL (Cl.head c)):Int)) (List.take (Int.toNat (IntKind.wrap .i64 ((List.length (tcellL (Cl.head c)):Int)+(List.length (tcellL (Cl.guard c)):Int)))) (tcellL l))))
 (((0:Int)<=IntKind.wrap .i64 ((List.length (tcellL (Cl.head c)):Int)+(List.length (tcellL (Cl.guard c)):Int))/\((IntKind.wrap .i64 ((List.length (tcellL (Cl.head c)):Int)+(List.length (tcellL (Cl.guard c)):Int))):Int)<=(List.length (tcellL l):Int))/\bcase (List.isEmpty (List.drop (Int.toNat (IntKind.wrap .i64 ((List.length (tcellL (Cl.head c)):Int)+(List.length (tcellL (Cl.guard c)):Int)))) (List.take (List.length (tcellL l)) (tcellL l))))
 (Q (AV.agg [iZ (Cl.mark c),iZ (Cl.vars c),AV.nilslice,AV.nilslice,AV.nilslice]) zJZ)
 (((((List.length (List.drop (Int.toNat (IntKind.wrap .i64 ((List.length (tcellL (Cl.head c)):Int)+(List.length (tcellL (Cl.guard c)):Int)))) (List.take (List.length (tcellL l)) (tcellL l))))*56):Nat)<=140737488355328/\((List.length (List.drop (Int.toNat (IntKind.wrap .i64 ((List.length (tcellL (Cl.head c)):Int)+(List.length (tcellL (Cl.guard c)):Int)))) (List.take (List.length (tcellL l)) (tcellL l)))):Nat)<=4611686018427387904)/\Q (AV.agg [iZ (Cl.mark c),iZ (Cl.vars c),AV.nilslice,AV.nilslice,AV.rslice 0 0 (List.length (List.drop (Int.toNat (IntKind.wrap .i64 ((List.length (tcellL (Cl.head c)):Int)+(List.length (tcellL (Cl.guard c)):Int)))) (List.take (List.length (tcellL l)) (tcellL l))))]) (zA6.new zJZ (zA5.cells (zA0 (List.drop (Int.toNat (IntKind.wrap .i64 ((List.length (tcellL (Cl.head c)):Int)+(List.length (tcellL (Cl.guard c)):Int)))) (List.take (List.length (tcellL l)) (tcellL l)))) 37 4 true))))
 (((((List.length (List.drop (Int.toNat (List.length (tcellL (Cl.head c)):Int)) (List.take (Int.toNat (IntKind.wrap .i64 ((List.length (tcellL (Cl.head c)):Int)+(List.length (tcellL (Cl.guard c)):Int)))) (tcellL l))))*56):Nat)<=140737488355328/\((List.length (List.drop (Int.toNat (List.length (tcellL (Cl.head c)):Int)) (List.take (Int.toNat (IntKind.wrap .i64 ((List.length (tcellL (Cl.head c)):Int)+(List.length (tcellL (Cl.guard c)):Int)))) (tcellL l)))):Nat)<=4611686018427387904)/\((0:Int)<=IntKind.wrap .i64 ((List.length (tcellL (Cl.head c)):Int)+(List.length (tcellL (Cl.guard c)):Int))/\((IntKind.wrap .i64 ((List.length (tcellL (Cl.head c)):Int)+(List.length (tcellL (Cl.guard c)):Int))):Int)<=(List.length (tcellL l):Int))/\bcase (List.isEmpty (List.drop (Int.toNat (IntKind.wrap .i64 ((List.length (tcellL (Cl.head c)):Int)+(List.length (tcellL (Cl.guard c)):Int)))) (List.take (List.length (tcellL l)) (tcellL l))))
 (Q (AV.agg [iZ (Cl.mark c),iZ (Cl.vars c),AV.nilslice,AV.rslice 0 0 (List.length (List.drop (Int.toNat (List.length (tcellL (Cl.head c)):Int)) (List.take (Int.toNat (IntKind.wrap .i64 ((List.length (tcellL (Cl.head c)):Int)+(List.length (tcellL (Cl.guard c)):Int)))) (tcellL l)))),AV.nilslice]) (zA6.new zJZ (zA5.cells (zA0 (List.drop (Int.toNat (List.length (tcellL (Cl.head c)):Int)) (List.take (Int.toNat (IntKind.wrap .i64 ((List.length (tcellL (Cl.head c)):Int)+(List.length (tcellL (Cl.guard c)):Int)))) (tcellL l)))) 37 4 true)))
 (((((List.length (List.drop (Int.toNat (IntKind.wrap .i64 ((List.length (tcellL (Cl.head c)):Int)+(List.length (tcellL (Cl.guard c)):Int)))) (List.take (List.length (tcellL l)) (tcellL l))))*56):Nat)<=140737488355328/\((List.length (List.drop (Int.toNat (IntKind.wrap .i64 ((List.length (tcellL (Cl.head c)):Int)+(List.length (tcellL (Cl.guard c)):Int)))) (List.take (List.length (tcellL l)) (tcellL l)))):Nat)<=4611686018427387904)/\Q (AV.agg [iZ (Cl.mark c),iZ (Cl.vars c),AV.nilslice,AV.rslice 0 0 (List.length (List.drop (Int.toNat (List.length (tcellL (Cl.head c)):Int)) (List.take (Int.toNat (IntKind.wrap .i64 ((List.length (tcellL (Cl.head c)):Int)+(List.length (tcellL (Cl.guard c)):Int)))) (tcellL l)))),AV.rslice 1 0 (List.length (List.drop (Int.toNat (IntKind.wrap .i64 ((List.length (tcellL (Cl.head c)):Int)+(List.length (tcellL (Cl.guard c)):Int)))) (List.take (List.length (tcellL l)) (tcellL l))))]) (zA6.new (zA6.new zJZ (zA5.cells (zA0 (List.drop (Int.toNat (List.length (tcellL (Cl.head c)):Int)) (List.take (Int.toNat (IntKind.wrap .i64 ((List.length (tcellL (Cl.head c)):Int)+(List.length (tcellL (Cl.guard c)):Int)))) (tcellL l)))) 37 4 true)) (zA5.cells (zA0 (List.drop (Int.toNat (IntKind.wrap .i64 ((List.length (tcellL (Cl.head c)):Int)+(List.length (tcellL (Cl.guard c)):Int)))) (List.take (List.length (tcellL l)) (tcellL l)))) 37 4 true)))))
 (((((List.length (List.drop 0 (List.take (Int.toNat (List.length (tcellL (Cl.head c)):Int)) (tcellL l))))*56):Nat)<=140737488355328/\((List.length (List.drop 0 (List.take (Int.toNat (List.length (tcellL (Cl.head c)):Int)) (tcellL l)))):Nat)<=4611686018427387904)/\((0:Int)<=IntKind.wrap .i64 ((List.length (tcellL (Cl.head c)):Int)+(List.length (tcellL (Cl.guard c)):Int))/\((IntKind.wrap .i64 ((List.length (tcellL (Cl.head c)):Int)+(List.length (tcellL (Cl.guard c)):Int))):Int)<=(List.length (tcellL l):Int))/\((0:Int)<=(List.length (tcellL (Cl.head c)):Int)/\(List.length (tcellL (Cl.head c)):Int)<=(Int.toNat (IntKind.wrap .i64 ((List.length (tcellL (Cl.head c)):Int)+(List.length (tcellL (Cl.guard c)):Int))):Int))/\bcase (List.isEmpty (List.drop (Int.toNat (List.length (tcellL (Cl.head c)):Int)) (List.take (Int.toNat (IntKind.wrap .i64 ((List.length (tcellL (Cl.head c)):Int)+(List.length (tcellL (Cl.guard c)):Int)))) (tcellL l))))
 (((0:Int)<=IntKind.wrap .i64 ((List.length (tcellL (Cl.head c)):Int)+(List.length (tcellL (Cl.guard c)):Int))/\((IntKind.wrap .i64 ((List.length (tcellL (Cl.head c)):Int)+(List.length (tcellL (Cl.guard c)):Int))):Int)<=(List.length (tcellL l):Int))/\bcase (List.isEmpty (List.drop (Int.toNat (IntKind.wrap .i64 ((List.length (tcellL (Cl.head c)):Int)+(List.length (tcellL (Cl.guard c)):Int)))) (List.take (List.length (tcellL l)) (tcellL l))))
 (Q (AV.agg [iZ (Cl.mark c),iZ (Cl.vars c),AV.rslice 0 0 (List.length (List.drop 0 (List.take (Int.toNat (List.length (tcellL (Cl.head c)):Int)) (tcellL l)))),AV.nilslice,AV.nilslice]) (zA6.new zJZ (zA5.cells (zA0 (List.drop 0 (List.take (Int.toNat (List.length (tcellL (Cl.head c)):Int)) (tcellL l)))) 37 4 true)))
 (((((List.length (List.drop (Int.toNat (IntKind.wrap .i64 ((List.length (tcellL (Cl.head c)):Int)+(List.length (tcellL (Cl.guard c)):Int)))) (List.take (List.length (tcellL l)) (tcellL l))))*56):Nat)<=140737488355328/\((List.length (List.drop (Int.toNat (IntKind.wrap .i64 ((List.length (tcellL (Cl.head c)):Int)+(List.length (tcellL (Cl.guard c)):Int)))) (List.take (List.length (tcellL l)) (tcellL l)))):Nat)<=4611686018427387904)/\Q (AV.agg [iZ (Cl.mark c),iZ (Cl.vars c),AV.rslice 0 0 (List.length (List.drop 0 (List.take (Int.toNat (List.length (tcellL (Cl.head c)):Int)) (tcellL l)))),AV.nilslice,AV.rslice 1 0 (List.length (List.drop (Int.toNat (IntKind.wrap .i64 ((List.length (tcellL (Cl.head c)):Int)+(List.length (tcellL (Cl.guard c)):Int)))) (List.take (List.length (tcellL l)) (tcellL l))))]) (zA6.new (zA6.new zJZ (zA5.cells (zA0 (List.drop 0 (List.take (Int.toNat (List.length (tcellL (Cl.head c)):Int)) (tcellL l)))) 37 4 true)) (zA5.cells (zA0 (List.drop (Int.toNat (IntKind.wrap .i64 ((List.length (tcellL (Cl.head c)):Int)+(List.length (tcellL (Cl.guard c)):Int)))) (List.take (List.length (tcellL l)) (tcellL l)))) 37 4 true))))
 (((((List.length (List.drop (Int.toNat (List.length (tcellL (Cl.head c)):Int)) (List.take (Int.toNat (IntKind.wrap .i64 ((List.length (tcellL (Cl.head c)):Int)+(List.length (tcellL (Cl.guard c)):Int)))) (tcellL l))))*56):Nat)<=140737488355328/\((List.length (List.drop (Int.toNat (List.length (tcellL (Cl.head c)):Int)) (List.take (Int.toNat (IntKind.wrap .i64 ((List.length (tcellL (Cl.head c)):Int)+(List.length (tcellL (Cl.guard c)):Int)))) (tcellL l)))):Nat)<=4611686018427387904)/\((0:Int)<=IntKind.wrap .i64 ((List.length (tcellL (Cl.head c)):Int)+(List.length (tcellL (Cl.guard c)):Int))/\((IntKind.wrap .i64 ((List.length (tcellL (Cl.head c)):Int)+(List.length (tcellL (Cl.guard c)):Int))):Int)<=(List.length (tcellL l):Int))/\bcase (List.isEmpty (List.drop (Int.toNat (IntKind.wrap .i64 ((List.length (tcellL (Cl.head c)):Int)+(List.length (tcellL (Cl.guard c)):Int)))) (List.take (List.length (tcellL l)) (tcellL l))))
 (Q (AV.agg [iZ (Cl.mark c),iZ (Cl.vars c),AV.rslice 0 0 (List.length (List.drop 0 (List.take (Int.toNat (List.length (tcellL (Cl.head c)):Int)) (tcellL l)))),AV.rslice 1 0 (List.length (List.drop (Int.toNat (List.length (tcellL (Cl.head c)):Int)) (List.take (Int.toNat (IntKind.wrap .i64 ((List.length (tcellL (Cl.head c)):Int)+(List.length (tcellL (Cl.guard c)):Int)))) (tcellL l)))),AV.nilslice]) (zA6.new (zA6.new zJZ (zA5.cells (zA0 (List.drop 0 (List.take (Int.toNat (List.length (tcellL (Cl.head c)):Int)) (tcellL l)))) 37 4 true)) (zA5.cells (zA0 (List.drop (Int.toNat (List.length (tcellL (Cl.head c)):Int)) (List.take (Int.toNat (IntKind.wrap .i64 ((List.length (tcellL (Cl.head c)):Int)+(List.length (tcellL (Cl.guard c)):Int)))) (tcellL l)))) 37 4 true)))
 (((((List.length (List.drop (Int.toNat (IntKind.wrap .i64 ((List.length (tcellL (Cl.head c)):Int)+(List.length (tcellL (Cl.guard c)):Int)))) (List.take (List.length (tcellL l)) (tcellL l))))*56):Nat)<=140737488355328/\((List.length (List.drop (Int.toNat (IntKind.wrap .i64 ((List.length (tcellL (Cl.head c)):Int)+(List.length (tcellL (Cl.guard c)):Int)))) (List.take (List.length (tcellL l)) (tcellL l)))):Nat)<=4611686018427387904)/\Q (AV.agg [iZ (Cl.mark c),iZ (Cl.vars c),AV.rslice 0 0 (List.length (List.drop 0 (List.take (Int.toNat (List.length (tcellL (Cl.head c)):Int)) (tcellL l)))),AV.rslice 1 0 (List.length (List.drop (Int.toNat (List.length (tcellL (Cl.head c)):Int)) (List.take (Int.toNat (IntKind.wrap .i64 ((List.length (tcellL (Cl.head c)):Int)+(List.length (tcellL (Cl.guard c)):Int)))) (tcellL l)))),AV.rslice 2 0 (List.length (List.drop (Int.toNat (IntKind.wrap .i64 ((List.length (tcellL (Cl.head c)):Int)+(List.length (tcellL (Cl.guard c)):Int)))) (List.take (List.length (tcellL l)) (tcellL l))))]) (zA6.new (zA6.new (zA6.new zJZ (zA5.cells (zA0 (List.drop 0 (List.take (Int.toNat (List.length (tcellL (Cl.head c)):Int)) (tcellL l)))) 37 4 true)) (zA5.cells (zA0 (List.drop (Int.toNat (List.length (tcellL (Cl.head c)):Int)) (List.take (Int.toNat (IntKind.wrap .i64 ((List.length (tcellL (Cl.head c)):Int)+(List.length (tcellL (Cl.guard c)):Int)))) (tcellL l)))) 37 4 true)) (zA5.cells (zA0 (List.drop (Int.toNat (IntKind.wrap .i64 ((List.length (tcellL (Cl.head c)):Int)+(List.length (tcellL (Cl.guard c)):Int)))) (List.take (List.length (tcellL l)) (tcellL l)))) 37 4 true)))))):=by kernel_rfl
def zd0 (c:Cl):Cl:=⟨c.mark,((zS7 c.all).length:Int),numTL (zS7 c.all) c.head,numTL (zS7 c.all) c.guard,numTL (zS7 c.all) c.body⟩
def zd1 (c:Cl):Bool:=zS5 c.all&&(zSC (zd0 c) c.head.length&&decide (c.head.length<=16))
def zeroCl:Cl:=⟨0,0,[],[],[]⟩
def zd2 (c:Cl):Cl:=if zd1 c=true then zd0 c else zeroCl
def C134:zJC:=fun args σ K=>∃ c:Cl,args=[clV c]/\(zXV c/\K (.tuple [clV (zd2 c),iZ (if zd1 c=true then 0 else 40)]) σ.untok)
theorem vc134 (c:Cl) (Q:AV->zA6->Prop):(zKD [] (EV B w0 G) (hnd (EV B w0 G) zHI zMU [(159,C159),(139,C139),(160,C160),(161,C161),(162,C162)]) nL zHI zMV 134 [clV c] zJZ Q) =
 (∃ c0:Cl,[AV.agg [iZ (Cl.mark c),iZ (Cl.vars c),sT (Cl.head c),sT (Cl.guard c),sT (Cl.body c)]]=[AV.agg [iZ (Cl.mark c0),iZ (Cl.vars c0),sT (Cl.head c0),sT (Cl.guard c0),sT (Cl.body c0)]]/\(List.length (Cl.head c0)<=300000/\List.length (Cl.guard c0)<=300000/\List.length (Cl.body c0)<=300000)/\∃ l1:List T,[sT (Cl.all c0)]=[sT l1]/\(List.length l1<=1000000/\(∀ x2:T,((x2∈l1)->(zWP x2))))/\bcase (!(zS5 l1))
 (Q (AV.tuple [AV.agg [iZ 0,iZ 0,AV.nilslice,AV.nilslice,AV.nilslice],iZ 40]) (Ut (Ut zJZ)))
 (∃ l2:List T,[sT (Cl.all c0)]=[sT l2]/\(zS5 l2=true/\List.length l2<=1000000)/\∃ c3:Cl,∃ l4:List T,[AV.agg [iZ (Cl.mark c),iZ (Cl.vars c),sT (Cl.head c),sT (Cl.guard c),sT (Cl.body c)],sT (numTL (zS7 l2) l2)]=[AV.agg [iZ (Cl.mark c3),iZ (Cl.vars c3),sT (Cl.head c3),sT (Cl.guard c3),sT (Cl.body c3)],sT l4]/\(List.length l4=List.length (Cl.all c3)/\List.length l4<=1000000)/\∃ c5:Cl,∃ arity6:Int,[AV.agg [iZ (Cl.mark { mark:=Cl.mark c3,vars:=Cl.vars c3,head:=List.take (List.length (Cl.head c3)) l4,guard:=List.take (List.length (Cl.guard c3)) (List.drop (List.length (Cl.head c3)) l4),body:=List.drop (List.length (Cl.head c3)+List.length (Cl.guard c3)) l4 }),iZ (List.length (zP9 (zS7 l2)):Int),sT (Cl.head { mark:=Cl.mark c3,vars:=Cl.vars c3,head:=List.take (List.length (Cl.head c3)) l4,guard:=List.take (List.length (Cl.guard c3)) (List.drop (List.length (Cl.head c3)) l4),body:=List.drop (List.length (Cl.head c3)+List.length (Cl.guard c3)) l4 }),sT (Cl.guard { mark:=Cl.mark c3,vars:=Cl.vars c3,head:=List.take (List.length (Cl.head c3)) l4,guard:=List.take (List.length (Cl.guard c3)) (List.drop (List.length (Cl.head c3)) l4),body:=List.drop (List.length (Cl.head c3)+List.length (Cl.guard c3)) l4 }),sT (Cl.body { mark:=Cl.mark c3,vars:=Cl.vars c3,head:=List.take (List.length (Cl.head c3)) l4,guard:=List.take (List.length (Cl.guard c3)) (List.drop (List.length (Cl.head c3)) l4),body:=List.drop (List.length (Cl.head c3)+List.length (Cl.guard c3)) l4 })],iZ (List.length (tcellL (Cl.head c)):Int)]=[AV.agg [iZ (Cl.mark c5),iZ (Cl.vars c5),sT (Cl.head c5),sT (Cl.guard c5),sT (Cl.body c5)],iZ arity6]/\zXV c5/\bcase (!(zSC c5 arity6))
 (Q (AV.tuple [AV.agg [iZ 0,iZ 0,AV.nilslice,AV.nilslice,AV.nilslice],iZ 40]) (Ut (Ut (Ut (Ut (Ut zJZ))))))
 (bcase (decide ((List.length (tcellL (Cl.head c)):Int) > 16))
 (Q (AV.tuple [AV.agg [iZ 0,iZ 0,AV.nilslice,AV.nilslice,AV.nilslice],iZ 40]) (Ut (Ut (Ut (Ut (Ut zJZ))))))
 (Q (AV.tuple [AV.agg [iZ (Cl.mark { mark:=Cl.mark c3,vars:=Cl.vars c3,head:=List.take (List.length (Cl.head c3)) l4,guard:=List.take (List.length (Cl.guard c3)) (List.drop (List.length (Cl.head c3)) l4),body:=List.drop (List.length (Cl.head c3)+List.length (Cl.guard c3)) l4 }),iZ (List.length (zP9 (zS7 l2)):Int),sT (Cl.head { mark:=Cl.mark c3,vars:=Cl.vars c3,head:=List.take (List.length (Cl.head c3)) l4,guard:=List.take (List.length (Cl.guard c3)) (List.drop (List.length (Cl.head c3)) l4),body:=List.drop (List.length (Cl.head c3)+List.length (Cl.guard c3)) l4 }),sT (Cl.guard { mark:=Cl.mark c3,vars:=Cl.vars c3,head:=List.take (List.length (Cl.head c3)) l4,guard:=List.take (List.length (Cl.guard c3)) (List.drop (List.length (Cl.head c3)) l4),body:=List.drop (List.length (Cl.head c3)+List.length (Cl.guard c3)) l4 }),sT (Cl.body { mark:=Cl.mark c3,vars:=Cl.vars c3,head:=List.take (List.length (Cl.head c3)) l4,guard:=List.take (List.length (Cl.guard c3)) (List.drop (List.length (Cl.head c3)) l4),body:=List.drop (List.length (Cl.head c3)+List.length (Cl.guard c3)) l4 })],iZ 0]) (Ut (Ut (Ut (Ut (Ut zJZ))))))))):=by kernel_rfl
def C134w:zJC:=fun args σ K=>∃ (h b:List T),args=[.agg [iZ 0,iZ 0,slV h,.nilslice,slV b]]/\(zXV ⟨0,0,h,[],b⟩/\K (.tuple [clV (zd2 ⟨0,0,h,[],b⟩),iZ (if zd1 ⟨0,0,h,[],b⟩=true then 0 else 40)]) σ.untok)
theorem vc112 (h b:List T) (Q:AV->zA6->Prop):(zKD [] (EV B w0 G) (hnd (EV B w0 G) zHI zMU [(134,C134w)]) nL zHI zMV 112 [slV h,slV b] zJZ Q) =
 (∃ h0:List T,∃ b1:List T,[AV.agg [iZ 0,iZ 0,sT h,AV.nilslice,sT b]]=[AV.agg [iZ 0,iZ 0,sT h0,AV.nilslice,sT b1]]/\zXV { mark:=0,vars:=0,head:=h0,guard:=[],body:=b1 }/\Q (AV.agg [iZ (Cl.mark (zd2 { mark:=0,vars:=0,head:=h0,guard:=[],body:=b1 })),iZ (Cl.vars (zd2 { mark:=0,vars:=0,head:=h0,guard:=[],body:=b1 })),sT (Cl.head (zd2 { mark:=0,vars:=0,head:=h0,guard:=[],body:=b1 })),sT (Cl.guard (zd2 { mark:=0,vars:=0,head:=h0,guard:=[],body:=b1 })),sT (Cl.body (zd2 { mark:=0,vars:=0,head:=h0,guard:=[],body:=b1 }))]) (Ut zJZ)):=by kernel_rfl
def C112:zJC:=fun args σ K=>∃ (h b:List T) (hs bs:List AV) (m1 m2:Cap),args=[.slice 4 hs m1,.slice 4 bs m2]/\((hs=tcellL h/\bs=tcellL b/\zXV ⟨0,0,h,[],b⟩)/\K (clV (zd2 ⟨0,0,h,[],b⟩)) σ.untok)
end Go.V
set_option linter.unusedSimpArgs false
set_option linter.unusedSectionVars false
namespace Go.V
open Go Go.Proofs

theorem zUG.deepN {σ:zA6} {v:AV} {acc:List T} (h:zUG σ v acc) {n:Nat} (hn:2*SizeOf.sizeOf acc+2<n):∃ v',Go.V.deep Tryz.prog σ n v=some v'/\Wk v' (slV acc):=by
 obtain ⟨n,rfl⟩:∃ k,n=k+1:=⟨n - 1,by omega⟩
 rcases h with ⟨rfl,rfl⟩ | ⟨id,cs,g,rfl,h1,h2,h3⟩
 ·exact ⟨.nilslice,rfl,Wk.nil 4⟩
 ·refine ⟨.slice 4 (tcellL acc) .nn,?_,Wk.slice _ _ _⟩
  refine zP5 (n:=n) (off:=0) (len:=acc.length) h1 kind37 rfl (by omega) (by omega) ?_
  rw [Nat.zero_mul,List.drop_zero,h3,zP7]
  exact deep_tcellL _ _ acc _ (by omega)
theorem zcL.lay {σ:zA6} (A:List T):((tcellL A).isEmpty=true->zcL σ .nilslice A)/\((tcellL A).isEmpty=false->zcL (σ.new (.cells (zA0 (tcellL A)) 37 4 true)) (.rslice σ.next 0 (tcellL A).length) A):=by
 refine ⟨fun h => ?_,fun h => ?_⟩
 ·rw [zUL] at h
  rw [List.isEmpty_iff.1 h]
  exact .none
 ·refine .inr ⟨σ.next,_,true,by rw [zMH],Nat.lt_succ_self _,zA6.new_objs _ _,by rw [zNP]; exact Nat.le_refl _,zUH A⟩
theorem zcL.skip {σ:zA6} {v:AV} {acc:List T} (h:zcL σ v acc) (o:zA5):zcL (σ.new o) v acc:=zaI.skip h o
mutual
theorem zd3 (vs:List Int):∀ t:T,(zcG vs t).bulk=t.bulk
 | .mk k n s l=>by rw [zcG,T.bulk,T.bulk,numTL_bulk vs l]
theorem numTL_bulk (vs:List Int):∀ l:List T,bulkL (numTL vs l)=bulkL l
 | []=>rfl
 | x :: l=>by rw [numTL,bulkL,bulkL,zd3 vs x,numTL_bulk vs l]
end
theorem zd4 (vs:List Int) (a b:List T):numTL vs (a++b)=numTL vs a++numTL vs b:=by rw [zcU,zcU,zcU,List.map_append]
theorem zd5 {c:Cl} (h:zXV c):zXV (zd0 c):=by
 obtain ⟨⟨h1,h2,h3⟩,h4⟩:=h
 refine ⟨⟨by show (numTL _ _).length<=_; rw [zcW]; exact h1,by show (numTL _ _).length<=_; rw [zcW]; exact h2,by show (numTL _ _).length<=_; rw [zcW]; exact h3⟩,fun x hx => ?_⟩
 have e:(zd0 c).all=numTL (zS7 c.all) c.all:=by
  show numTL _ c.head++numTL _ c.guard++numTL _ c.body=numTL _ (c.head++c.guard++c.body)
  rw [zd4,zd4]
 rw [e,zcU] at hx
 obtain ⟨y,hy,rfl⟩:=List.mem_map.1 hx
 show (zcG _ y).bulk<=_
 rw [zd3]; exact h4 y hy
theorem zd6 {l:List T} (h:zS5 l=true):(zS7 l).length<=4000:=by
 have h1:=zTF l
 rw [nodesTL_size] at h1
 have:=(zT6.1 h).2
 omega
section
variable {B:Nat} {w0:World} {G:Nat->AV}
variable (hG:∀ i,zJV (G i))
include hG
omit hG in
theorem zd7 {σ:zA6} {v v':AV} {w:AV} {n:Nat} (h:deep Tryz.prog σ (n+1) v=some v') (hw:deep Tryz.prog σ (n+1) w=some w):deep Tryz.prog σ (n+2) (.tuple [v,w])=some (.tuple [v',w]):=by
 have e1:deep Tryz.prog σ (n+2) (.tuple [v,w])=(([v,w]:List AV).mapM (deep Tryz.prog σ (n+1))).map .tuple:=rfl
 rw [e1]
 simp only [List.mapM_cons,List.mapM_nil,h,hw,Option.bind_eq_bind,Option.bind_some,Option.pure_def,Option.map_some]
theorem c160_ok:zJD (EV B w0 G) 160 C160:=by
 rintro args σ Q ⟨l,rfl,⟨ht,hlen⟩,hQ⟩
 have hchk:=(zT6.1 ht).1
 have hvs:=zd6 ht
 have hH:zIP (EV B w0 G) (H160 (EV B w0 G) (SizeOf.sizeOf l+1)):=zJJ (zKM B w0 G) (zJI (zXT hG) (zJI (zcX hG _) zJH))
 refine zDV.pureD (2*SizeOf.sizeOf (numTL (zS7 l) l)+4) hG (Q0:=fun v σ'=>∃ w,v = .tuple [w,.slice 1 (zP9 (zS7 l)) .any]/\zUG σ' w (numTL (zS7 l) l)) (fun v hv => ?_) ?_ (fun v σ' k => ?_)
 ·simp only [List.mem_cons,List.not_mem_nil,or_false] at hv
  subst hv; exact zQI l
 rotate_left
 ·obtain ⟨w,rfl,hO⟩:=k
  obtain ⟨v',h1,h2⟩:=hO.deep
  refine ⟨_,_,zd7 h1 ?_,Wk.tuple (.cons h2 (.cons (.refl _) .nil)),.tuple fun v hv => ?_,hQ⟩
  ·exact zP4 (m:=.any) (zTM hG Tryz.prog σ' (zS7 l) (2*SizeOf.sizeOf (numTL (zS7 l) l)+1))
  ·simp only [List.mem_cons,List.not_mem_nil,or_false] at hv
   rcases hv with rfl | rfl
   ·exact zQI _
   ·exact zPC _
 let I:zUC->Prop:=fun y=>y.i<=l.length/\zcL y.σ y.v (numTL (zS7 l) (l.take y.i))
 let R:zUC->Prop:=fun y=>zcL y.σ y.v (numTL (zS7 l) l)
 refine zKF (cuts:=[]) (zKM B w0 G) hH (fun lp hl _ Q a' σ kk => ?_) ((vc160 B w0 G _ l I R _).mpr ⟨l,rfl,⟨ht,hlen⟩,⟨zJZ,.nilslice,0⟩,⟨Nat.zero_le _,.none⟩,⟨rfl,rfl,rfl,rfl,zSM⟩,fun y' hy=>⟨_,rfl,zcL.toT hy⟩⟩)
 change lp∈zKE Tryz.prog [] 160 at hl
 rw [zcZ] at hl
 simp only [List.mem_cons,List.not_mem_nil,or_false] at hl
 subst hl
 obtain ⟨y0,hI0,hat,hR⟩:=kk
 refine zK5 (zcY l (zS7 l) I) (x0:=y0) (fun y hI => ?_) (fun y hI e a' σ hne kk => ?_) hI0 hat
 ·obtain ⟨σy,v,i⟩:=y
  obtain ⟨hi,hO⟩:=hI
  change i<=l.length at hi
  change zcL σy v (numTL (zS7 l) (l.take i)) at hO
  refine zP3 hH (zKM B w0 G) (by kernel_rfl) ((vc160l B w0 G _ l (zS7 l) I σy v i).mpr (zE2 (fun h => ?_) (fun h=>⟨fun h2 => ?_,rfl,rfl,.refl _⟩)))
  ·have h:=of_decide_eq_true h
   rw [zMH] at h
   have h:(i:Int)<(l.length:Int):=h
   have hk2:i<l.length:=by omega
   have hm:=List.getElem_mem hk2
   have hN':l[i].small/\SizeOf.sizeOf l[i]<SizeOf.sizeOf l+1/\(zS7 l).length<=1000000:=⟨zNO (hchk _ hm),by have:=List.sizeOf_lt_of_mem hm; omega,by omega⟩
   have hs2:=zcV (vs:=zS7 l) hk2
   have hle:(numTL (zS7 l) (l.take i)).length=i:=by rw [zcW,List.length_take]; omega
   have hμ:l.length - (i+1)<l.length - i:=by omega
   have hg:AV.vptr (AV.cells (List.getD (tcellL l) (Int.toNat (i:Int)) AV.undef)) = .vptr (tc l[i]):=by rw [Int.toNat_natCast]; exact zNA hk2
   have hb:(0:Int)<=(i:Int)/\(i:Int)<((tcellL l).length:Int):=⟨by omega,by rw [zMH]; exact h⟩
   rcases hO.untok.cases with ⟨rfl,hx⟩ | ⟨id,cs,g,rfl,ho,hcl,hx⟩
   ·exact .inl ⟨rfl,hb,l[i],hg,l[i],zS7 l,rfl,hN',⟨by omega,by omega⟩,⟨_,.rslice σy.next 0 1,i+1⟩,⟨⟨hk2,by show zcL _ _ (numTL (zS7 l) (l.take (i+1))); rw [hs2]; exact hx _⟩,hμ⟩,rfl,rfl,rfl,congrArg (fun z=>TV.v (iZ z)) (wI1 hk2 (by omega)),.refl _⟩
   ·exact .inr ⟨⟨id,(numTL (zS7 l) (l.take i)).length⟩,rfl,hb,l[i],hg,l[i],zS7 l,rfl,hN',⟨cs,g⟩,ho,⟨rfl,⟨by show ((numTL (zS7 l) (l.take i)).length+1)*56<=_; omega,by show (numTL (zS7 l) (l.take i)).length+1<=_; omega⟩,hcl⟩,⟨_,.rslice σy.next 0 ((numTL (zS7 l) (l.take i)).length+1),i+1⟩,⟨⟨hk2,by show zcL _ _ (numTL (zS7 l) (l.take (i+1))); rw [hs2]; exact hx _⟩,hμ⟩,rfl,rfl,rfl,congrArg (fun z=>TV.v (iZ z)) (wI1 hk2 (by omega)),.refl _⟩
  ·have h:=of_decide_eq_false h
   rw [zMH] at h
   have h2:i<l.length:=h2
   exact h (by show (i:Int)<_; omega)
 ·obtain ⟨σy,v,i⟩:=y
  obtain ⟨hi,hO⟩:=hI
  change i<=l.length at hi
  change zcL σy v (numTL (zS7 l) (l.take i)) at hO
  cases e with
  | exit q =>
   match q,kk with
   | 0,kk =>
    obtain ⟨hk2,hat⟩:=kk
    have hk2:¬ i<l.length:=hk2
    rw [show i=l.length by omega,List.take_length] at hO
    exact ⟨_,_,(zJM hat).1,(zJM hat).2,hR ⟨σy,v,i⟩ hO⟩
  | normal=>exact absurd rfl hne
  | _=>exact kk.elim
omit hG in
theorem zd8 (l:List T) (n:Nat):(tcellL l).take n=tcellL (l.take n):=by rw [zMG,zMG,List.map_take]
omit hG in
theorem zd9 (l:List T) (n:Nat):(tcellL l).drop n=tcellL (l.drop n):=by rw [zMG,zMG,List.map_drop]
omit hG in
theorem deep_cl {σ:zA6} {m k:Int} {v1 v2 v3 w1 w2 w3:AV} {n:Nat} (h1:deep Tryz.prog σ (n+1) v1=some w1) (h2:deep Tryz.prog σ (n+1) v2=some w2) (h3:deep Tryz.prog σ (n+1) v3=some w3) :
  deep Tryz.prog σ (n+2) (.agg [iZ m,iZ k,v1,v2,v3])=some (.agg [iZ m,iZ k,w1,w2,w3]):=by
 have e1:deep Tryz.prog σ (n+2) (.agg [iZ m,iZ k,v1,v2,v3])=(([iZ m,iZ k,v1,v2,v3]:List AV).mapM (deep Tryz.prog σ (n+1))).map .agg:=rfl
 have i1:deep Tryz.prog σ (n+1) (iZ m)=some (iZ m):=rfl
 have i2:deep Tryz.prog σ (n+1) (iZ k)=some (iZ k):=rfl
 rw [e1]
 simp only [List.mapM_cons,List.mapM_nil,i1,i2,h1,h2,h3,Option.bind_eq_bind,Option.bind_some,Option.pure_def,Option.map_some]
theorem c161_ok:zJD (EV B w0 G) 161 C161:=by
 rintro args σ Q ⟨c,l,rfl,⟨hl,hlen⟩,hQ⟩
 let A:=l.take c.head.length
 let Gd:=(l.drop c.head.length).take c.guard.length
 let Bd:=l.drop (c.head.length+c.guard.length)
 have hl:l.length=c.head.length+c.guard.length+c.body.length:=by rw [hl]; unfold Cl.all; simp only [List.length_append]
 let N:=2*(SizeOf.sizeOf A+SizeOf.sizeOf Gd+SizeOf.sizeOf Bd)+3
 refine zDV.pureD (N+1) hG (Q0:=fun v σ'=>∃ v1 v2 v3,v = .agg [iZ c.mark,iZ c.vars,v1,v2,v3]/\zcL σ' v1 A/\zcL σ' v2 Gd/\zcL σ' v3 Bd) (fun v hv => ?_) ?_ (fun v σ' k => ?_)
 ·simp only [List.mem_cons,List.not_mem_nil,or_false] at hv
  rcases hv with rfl | rfl
  ·exact zUM c
  ·exact zQI l
 rotate_left
 ·obtain ⟨v1,v2,v3,rfl,o1,o2,o3⟩:=k
  obtain ⟨w1,d1,k1⟩:=o1.toT.deepN (n:=N) (by show _<2*(_+_+_)+3; omega)
  obtain ⟨w2,d2,k2⟩:=o2.toT.deepN (n:=N) (by show _<2*(_+_+_)+3; omega)
  obtain ⟨w3,d3,k3⟩:=o3.toT.deepN (n:=N) (by show _<2*(_+_+_)+3; omega)
  exact ⟨_,_,deep_cl d1 d2 d3,Wk.agg (.cons (.refl _) (.cons (.refl _) (.cons k1 (.cons k2 (.cons k3 .nil))))),zUM ⟨c.mark,c.vars,A,Gd,Bd⟩,hQ⟩
 have ew:IntKind.wrap .i64 ((((tcellL c.head).length:Nat):Int)+(((tcellL c.guard).length:Nat):Int))=((c.head.length+c.guard.length:Nat):Int):=by
  rw [zMH,zMH,zN8 (by omega) (by omega)]; omega
 have e1:List.drop 0 (List.take c.head.length (tcellL l))=tcellL A:=by rw [List.drop_zero,zd8]
 have e2:List.drop c.head.length (List.take (c.head.length+c.guard.length) (tcellL l))=tcellL Gd:=by
  rw [List.drop_take,Nat.add_sub_cancel_left,zd9,zd8]
 have e3:List.drop (c.head.length+c.guard.length) (List.take l.length (tcellL l))=tcellL Bd:=by
  rw [List.take_of_length_le (by rw [zMH]; exact Nat.le_refl _),zd9]
 have hA:A.length<=1000000:=by show (l.take _).length<=_; rw [List.length_take]; omega
 have hGd:Gd.length<=1000000:=by show ((l.drop _).take _).length<=_; rw [List.length_take,List.length_drop]; omega
 have hBd:Bd.length<=1000000:=by show (l.drop _).length<=_; rw [List.length_drop]; omega
 refine zKF (cuts:=[]) (zKM B w0 G) zMZ (fun lp hl _ Q a' σ' kk=>kk.elim) ((vc161 B w0 G c l _).mpr ?_)
 rw [ew]
 simp only [zMH,Int.toNat_natCast]
 rw [e1,e2,e3]
 simp only [zMH]
 have r1:(0:Int)<=(c.head.length:Int)/\(c.head.length:Int)<=(l.length:Int):=⟨by omega,by omega⟩
 have r2:(0:Int)<=((c.head.length+c.guard.length:Nat):Int)/\((c.head.length+c.guard.length:Nat):Int)<=(l.length:Int):=⟨by omega,by omega⟩
 have r3:(0:Int)<=(c.head.length:Int)/\(c.head.length:Int)<=((c.head.length+c.guard.length:Nat):Int):=⟨by omega,by omega⟩
 have bb:∀ n:Nat,n<=1000000->n*56<=140737488355328/\n<=4611686018427387904:=fun n h=>⟨by omega,by omega⟩
 have lay:∀ (σ:zA6) (X:List T),((tcellL X).isEmpty=false->zcL (σ.new (.cells (zA0 (tcellL X)) 37 4 true)) (.rslice σ.next 0 X.length) X):=fun σ X h=>by
  have:=(zcL.lay (σ:=σ) X).2 h
  rw [zMH] at this; exact this
 refine ⟨r1,zE2 (fun a1=>⟨r2,r3,zE2 (fun a2=>⟨r2,zE2 (fun a3 => ?_) (fun a3=>⟨bb _ hBd,?_⟩)⟩) (fun a2=>⟨bb _ hGd,r2,zE2 (fun a3 => ?_) (fun a3=>⟨bb _ hBd,?_⟩)⟩)⟩)
  (fun a1=>⟨bb _ hA,r2,r3,zE2 (fun a2=>⟨r2,zE2 (fun a3 => ?_) (fun a3=>⟨bb _ hBd,?_⟩)⟩) (fun a2=>⟨bb _ hGd,r2,zE2 (fun a3 => ?_) (fun a3=>⟨bb _ hBd,?_⟩)⟩)⟩)⟩
 ·exact ⟨_,_,_,rfl,(zcL.lay A).1 a1,(zcL.lay Gd).1 a2,(zcL.lay Bd).1 a3⟩
 ·exact ⟨_,_,_,rfl,(zcL.lay A).1 a1,(zcL.lay Gd).1 a2,lay _ Bd a3⟩
 ·exact ⟨_,_,_,rfl,(zcL.lay A).1 a1,lay _ Gd a2,(zcL.lay Bd).1 a3⟩
 ·exact ⟨_,_,_,rfl,(zcL.lay A).1 a1,(lay _ Gd a2).skip _,lay _ Bd a3⟩
 ·exact ⟨_,_,_,rfl,lay _ A a1,(zcL.lay Gd).1 a2,(zcL.lay Bd).1 a3⟩
 ·exact ⟨_,_,_,rfl,(lay _ A a1).skip _,(zcL.lay Gd).1 a2,lay _ Bd a3⟩
 ·exact ⟨_,_,_,rfl,(lay _ A a1).skip _,lay _ Gd a2,(zcL.lay Bd).1 a3⟩
 ·exact ⟨_,_,_,rfl,((lay _ A a1).skip _).skip _,(lay _ Gd a2).skip _,lay _ Bd a3⟩
omit hG in
theorem zdA:Wk (.agg [iZ 0,iZ 0,.nilslice,.nilslice,.nilslice]) (clV zeroCl):=Wk.agg (.cons (.refl _) (.cons (.refl _) (.cons (Wk.nil 4) (.cons (Wk.nil 4) (.cons (Wk.nil 4) .nil)))))
theorem c134_ok:zJD (EV B w0 G) 134 C134:=by
 rintro args σ Q ⟨c,rfl,hb,hQ⟩
 have hb0:=hb
 obtain ⟨⟨h1,h2,h3⟩,h4⟩:=hb0
 refine zSL hG (fun v hv => ?_) (.tuple fun v hv => ?_) (fun Q hQ => ?_) hQ
 ·simp only [List.mem_cons,List.not_mem_nil,or_false] at hv
  subst hv; exact zUM c
 ·simp only [List.mem_cons,List.not_mem_nil,or_false] at hv
  rcases hv with rfl | rfl
  ·exact zUM _
  ·exact .int _ _
 have bad:zd1 c=false->∀ σ',Q (.tuple [.agg [iZ 0,iZ 0,.nilslice,.nilslice,.nilslice],iZ 40]) σ':=fun h σ'=>by
  refine hQ _ _ ?_
  unfold zd2
  rw [h,if_neg (by simp),if_neg (by simp)]
  exact Wk.tuple (.cons zdA (.cons (.refl _) .nil))
 have hal:c.all.length=c.head.length+c.guard.length+c.body.length:=by unfold Cl.all; simp only [List.length_append]
 have ea:numTL (zS7 c.all) c.all=numTL (zS7 c.all) c.head++(numTL (zS7 c.all) c.guard++numTL (zS7 c.all) c.body):=by
  show numTL _ (c.head++c.guard++c.body)=_
  rw [zd4,zd4,List.append_assoc]
 have hn:∀ x:List T,(numTL (zS7 c.all) x).length=x.length:=zcW _
 have en:(⟨c.mark,((zS7 c.all).length:Int),(numTL (zS7 c.all) c.all).take c.head.length,((numTL (zS7 c.all) c.all).drop c.head.length).take c.guard.length,(numTL (zS7 c.all) c.all).drop (c.head.length+c.guard.length)⟩:Cl)=zd0 c:=by
  unfold zd0
  rw [ea,List.take_left' (hn _),List.drop_left' (hn _),List.take_left' (hn _),<-List.append_assoc,List.drop_left' (by rw [List.length_append,hn,hn])]
 have hnb:=zd5 hb
 refine zKF (cuts:=[]) (zKM B w0 G) (zJJ (zKM B w0 G) (zJI (zXF hG) (zJI (zX9 hG) (zJI (c160_ok hG) (zJI (c161_ok hG) (zJI (zYG hG) zJH)))))) (fun lp hl _ Q a' σ' kk=>kk.elim) ((vc134 B w0 G c Q).mpr ⟨c,rfl,⟨h1,h2,h3⟩,c.all,rfl,⟨by omega,h4⟩,zE2 (fun ht=>bad ?_ _) (fun ht => ?_)⟩)
 ·have ht:zS5 c.all=false:=by simpa using ht
  unfold zd1; rw [ht]; rfl
 ·have ht:zS5 c.all=true:=by simpa using ht
  refine ⟨c.all,rfl,⟨ht,by omega⟩,c,numTL (zS7 c.all) c.all,rfl,⟨zcW _ _,by rw [zcW]; omega⟩,zd0 c,(c.head.length:Int),?_,hnb,?_⟩
  ·rw [zPA,zMH,<-en]
  ·rw [zPA]
   refine zE2 (fun hc=>bad ?_ _) (fun hc=>zE2 (fun hl=>bad ?_ _) (fun hl=>hQ _ _ ?_))
   ·have hc:zSC (zd0 c) c.head.length=false:=by simpa using hc
    unfold zd1; rw [ht,hc]; rfl
   ·have hl:=of_decide_eq_true hl
    rw [zMH] at hl
    unfold zd1; rw [decide_eq_false (show ¬ c.head.length<=16 by omega)]; simp
   ·have hc:zSC (zd0 c) c.head.length=true:=by simpa using hc
    have hl:=of_decide_eq_false hl
    rw [zMH] at hl
    have hok:zd1 c=true:=by unfold zd1; rw [ht,hc,decide_eq_true (show c.head.length<=16 by omega)]; rfl
    unfold zd2
    rw [hok,if_pos rfl,if_pos rfl,<-en]
    exact .refl _
theorem c134w_ok:zJD (EV B w0 G) 134 C134w:=by
 rintro args σ Q ⟨h,b,rfl,hb,hQ⟩
 refine zDV.argsW (ys:=[clV ⟨0,0,h,[],b⟩]) ?_ (.cons (Wk.agg (.cons (.refl _) (.cons (.refl _) (.cons (.refl _) (.cons (Wk.nil 4) (.cons (.refl _) .nil)))))) .nil)
 exact c134_ok hG _ _ _ ⟨_,rfl,hb,hQ⟩
theorem c112_ok:zJD (EV B w0 G) 112 C112:=by
 rintro args σ Q ⟨h,b,hs,bs,m1,m2,rfl,⟨rfl,rfl,hb⟩,hQ⟩
 refine zDV.argsW (ys:=[slV h,slV b]) ?_ (.cons (Wk.slice _ _ _) (.cons (Wk.slice _ _ _) .nil))
 refine zN1 hG (fun v hv => ?_) (zUM _) (fun Q hQ => ?_) hQ
 ·simp only [List.mem_cons,List.not_mem_nil,or_false] at hv
  rcases hv with rfl | rfl <;> exact zQI _
 exact zKF (cuts:=[]) (zKM B w0 G) (zJJ (zKM B w0 G) (zJI (c134w_ok hG) zJH)) (fun lp hl _ Q a' σ' kk=>kk.elim) ((vc112 B w0 G h b Q).mpr ⟨h,b,rfl,hb,hQ _⟩)
end
end Go.V
