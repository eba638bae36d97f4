/- A part of the proof of the statement S8 (texts brought together and shortened by a program of this work). -/
import Derived.Test.YtgnjidopnplbbaaGreatDoorQ37
set_option maxRecDepth 1000000
set_option linter.unusedVariables false
namespace Go.V
open Go Go.Proofs
variable (B:Nat) (w0:World) (G:Nat->AV)
def rawT (k i:Nat):Cl:=⟨0,0,zc9 k i (zYR (vN k) (vN i)) (vN (k+1)),[],[eqN (vN (k+1)) (zYR (vN k) (vN (k+2))),zYS (zc9 k i (vN i) (vN (k+2)))]⟩
def rawE (k i:Nat):Cl:=⟨0,0,zc9 k i zYQ (vN (k+1)),[],[zYS (zcA k i (vN (k+1)))]⟩
def raw0:Cl:=⟨0,0,[vN 1],[],[eqN (vN 1) zYQ]⟩
def zdB (k i:Nat):List Cl:=(List.range i).map fun j=>zd2 (rawT k j)
def zdC (k i:Nat):List Cl:=(List.range i).map fun j=>zd2 (rawE k j)
def zdD (k:Nat):List Cl:=zdB k k++zdC k k++if k=0 then [zd2 raw0] else []
def zdE (k:Nat):Pr:=⟨⟨⟨[109,101,114,103,101]⟩⟩,((k+1:Nat):Int),zdD k⟩
def C73:zJC:=fun args σ K=>∃ k:Nat,args=[iZ (k:Int)]/\(k<=8/\K (prV (zdE k)) σ.untok)
def zdF:List AV:=[.str ⟨⟨[]⟩⟩,iZ 0,.nilslice]
def C79w:zJC:=fun args σ K=>∃ (l:List T) (m:Cap),args=[.slice 4 (tcellL l) m]/\K (.agg (tc (zYS l))) σ.untok
def H73 (E:Env):zDY:=hnd E zHI zMU [(78,C78),(114,C114),(113,C113),(115,C115),(79,C79w),(112,C112),(77,C77),(116,C116)]
def zdG (k:Nat) (I:zUC->Prop):LS zUC where
 F y:=[(0,.v (iZ (k:Int))),(2,.l 2 0),(3,.l 3 0),(4,.l 4 0),(5,.l 5 0),(6,.l 6 0),(7,.v (iZ (y.i:Int)))]
 FL y:=[(2,zdF),(3,tc (vN k)),(4,tc (vN (k+1))),(5,tc (vN (k+2))),(6,[.str ⟨⟨[109,101,114,103,101]⟩⟩,iZ ((k+1:Nat):Int),y.v])]
 S y:=y.σ
 I:=I
 μ y:=k - y.i
 Ex y e a σ:=match e with
  | .exit 0=>¬ (y.i<k)/\atF a [(0,.v (iZ (k:Int))),(2,.l 2 0),(4,.l 4 0),(6,.l 6 0)] [(2,zdF),(4,tc (vN (k+1))),(6,[.str ⟨⟨[109,101,114,103,101]⟩⟩,iZ ((k+1:Nat):Int),y.v])] (y.σ.Le σ)
  | _=>False
def N73:zIE:=hAt [(9,1,zP6),(9,23,hEl 189 5),(13,1,zP6),(13,15,hEl 189 5),(15,1,zP6),(15,10,hEl 189 5)]
theorem zdH:zKE Tryz.prog [] 73=[.loop (lB 73 0),.loop (lB 73 1)]:=by kernel_rfl
theorem zdI:zKA (.loop (lB 73 0))=some 6/\zKA (.loop (lB 73 1))=some 11:=by refine ⟨?_,?_⟩ <;> kernel_rfl
theorem vc73a (k:Nat) (I:zUC->Prop) (σ:zA6) (v:AV) (i:Nat):(wpX [] (EV B w0 G) (H73 (EV B w0 G)) nL (zHI 73) N73 (lB 73 0) ((zdG k I).post ⟨σ,v,i⟩) (frm ((zdG k I).F ⟨σ,v,i⟩) ((zdG k I).FL ⟨σ,v,i⟩)) σ) =
 (bcase (decide ((i:Int)<(k:Int)))
 (∃ k0:Int,[iZ (i:Int)]=[iZ k0]/\((v=AV.nilslice/\∃ a1:T,∃ b2:T,[AV.agg (tc (vN k)),AV.agg (tc (vZ k0))]=[AV.agg (tc a1),AV.agg (tc b2)]/\Rf (TV.l 6 2)/\Dn v AV.nilslice/\Rf (TV.v (iZ (k:Int)))/\Rf (TV.v (iZ (i:Int)))/\Rf (TV.v (AV.agg (tc (vN (k+1)))))/\Rf (TV.v (AV.agg (tc (vN (k+1)))))/\Rf (TV.v (AV.agg (tc (vN k))))/\Rf (TV.v (AV.agg (tc (vN (k+2)))))/\Rf (TV.v (iZ (k:Int)))/\Rf (TV.v (iZ (i:Int)))/\Rf (TV.v (AV.agg (tc (vZ k0))))/\Rf (TV.v (AV.agg (tc (vN (k+2)))))/\∃ k3:Nat,∃ i4:Nat,∃ t5:T,∃ z6:T,[iZ (k:Int),iZ (i:Int),AV.agg [iZ 5,iZ 0,AV.str ⟨⟨[46]⟩⟩,AV.slice 4 [zME a1,zME b2] Cap.any],AV.agg (tc (vN (k+1)))]=[iZ (k3:Int),iZ (i4:Int),AV.agg (tc t5),AV.agg (tc z6)]/\(k3<=1000000/\i4<=1000000)/\Rf (TV.l 6 2)/\Dn v AV.nilslice/\Rf (TV.v (AV.agg (tc (vN (k+1)))))/\Rf (TV.v (AV.agg (tc (vN k))))/\Rf (TV.v (AV.agg (tc (vN (k+2)))))/\Rf (TV.v (iZ (k:Int)))/\Rf (TV.v (iZ (i:Int)))/\Rf (TV.v (AV.agg (tc (vZ k0))))/\Rf (TV.v (AV.agg (tc (vN (k+2)))))/\∃ a7:T,∃ b8:T,[AV.agg (tc (vN k)),AV.agg (tc (vN (k+2)))]=[AV.agg (tc a7),AV.agg (tc b8)]/\Rf (TV.l 6 2)/\Dn v AV.nilslice/\Rf (TV.v (AV.agg (tc (vN (k+1)))))/\Rf (TV.v (iZ (k:Int)))/\Rf (TV.v (iZ (i:Int)))/\Rf (TV.v (AV.agg (tc (vZ k0))))/\Rf (TV.v (AV.agg (tc (vN (k+2)))))/\∃ a9:T,∃ b10:T,[AV.agg (tc (vN (k+1))),AV.agg [iZ 5,iZ 0,AV.str ⟨⟨[46]⟩⟩,AV.slice 4 [zME a7,zME b8] Cap.any]]=[AV.agg (tc a9),AV.agg (tc b10)]/\Rf (TV.l 6 2)/\Dn v AV.nilslice/\Rf (TV.v (iZ (k:Int)))/\Rf (TV.v (iZ (i:Int)))/\Rf (TV.v (AV.agg (tc (vZ k0))))/\Rf (TV.v (AV.agg (tc (vN (k+2)))))/\∃ k11:Nat,∃ i12:Nat,∃ t13:T,∃ z14:T,[iZ (k:Int),iZ (i:Int),AV.agg (tc (vZ k0)),AV.agg (tc (vN (k+2)))]=[iZ (k11:Int),iZ (i12:Int),AV.agg (tc t13),AV.agg (tc z14)]/\(k11<=1000000/\i12<=1000000)/\Rf (TV.l 6 2)/\Dn v AV.nilslice/\∃ l15:List T,∃ m16:Cap,[sT (zc9 k11 i12 t13 z14)]=[AV.slice 4 (tcellL l15) m16]/\Rf (TV.l 6 2)/\Dn v AV.nilslice/\∃ h17:List T,∃ b18:List T,∃ hs19:List AV,∃ bs20:List AV,∃ m121:Cap,∃ m222:Cap,[sT (zc9 k3 i4 t5 z6),AV.slice 4 [AV.agg [iZ 5,iZ 0,AV.str ⟨⟨[61]⟩⟩,AV.slice 4 [zME a9,zME b10] Cap.any],AV.agg [iZ 5,iZ 0,AV.str ⟨⟨[109,101,114,103,101]⟩⟩,sT (T.l (zYS l15))]] Cap.full]=[AV.slice 4 hs19 m121,AV.slice 4 bs20 m222]/\(hs19=tcellL h17/\bs20=tcellL b18/\zXV { mark:=0,vars:=0,head:=h17,guard:=[],body:=b18 })/\Rf (TV.l 6 2)/\Dn v AV.nilslice/\Bd0 88 1/\∃ x'23:zUC,(I x'23/\LS.μ (zdG k I) x'23<LS.μ (zdG k I) (zUC.mk σ v i))/\Rf (TV.v (iZ (k:Int)))/\Rf (TV.l 2 0)/\Rf (TV.l 3 0)/\Rf (TV.l 4 0)/\Rf (TV.l 5 0)/\Rf (TV.l 6 0)/\TV.v (iZ (IntKind.wrap .i64 ((i:Int)+1)))=TV.v (iZ (zUC.i x'23:Int))/\Rf [AV.str ⟨⟨[]⟩⟩,iZ 0,AV.nilslice]/\Rf (tc (vN k))/\Rf (tc (vN (k+1)))/\Rf (tc (vN (k+2)))/\[AV.str ⟨⟨[109,101,114,103,101]⟩⟩,iZ (((k+1):Nat):Int),AV.rslice (zA6.next σ) 0 1]=[AV.str ⟨⟨[109,101,114,103,101]⟩⟩,iZ (((k+1):Nat):Int),zUC.v x'23]/\zA6.Le ((zdG k I).3 x'23) (zA6.new (Ut (Ut (Ut (Ut (Ut (Ut (Ut (Ut σ)))))))) (zA5.cells [iZ (Cl.mark (zd2 { mark:=0,vars:=0,head:=h17,guard:=[],body:=b18 })),iZ (Cl.vars (zd2 { mark:=0,vars:=0,head:=h17,guard:=[],body:=b18 })),sT (Cl.head (zd2 { mark:=0,vars:=0,head:=h17,guard:=[],body:=b18 })),sT (Cl.guard (zd2 { mark:=0,vars:=0,head:=h17,guard:=[],body:=b18 })),sT (Cl.body (zd2 { mark:=0,vars:=0,head:=h17,guard:=[],body:=b18 }))] 189 5 true)))\/∃ x1:RS,v=AV.rslice (RS.id x1) 0 (RS.n x1)/\∃ a2:T,∃ b3:T,[AV.agg (tc (vN k)),AV.agg (tc (vZ k0))]=[AV.agg (tc a2),AV.agg (tc b3)]/\Rf (TV.l 6 2)/\Dn v (AV.rslice (RS.id x1) 0 (RS.n x1))/\Rf (TV.v (iZ (k:Int)))/\Rf (TV.v (iZ (i:Int)))/\Rf (TV.v (AV.agg (tc (vN (k+1)))))/\Rf (TV.v (AV.agg (tc (vN (k+1)))))/\Rf (TV.v (AV.agg (tc (vN k))))/\Rf (TV.v (AV.agg (tc (vN (k+2)))))/\Rf (TV.v (iZ (k:Int)))/\Rf (TV.v (iZ (i:Int)))/\Rf (TV.v (AV.agg (tc (vZ k0))))/\Rf (TV.v (AV.agg (tc (vN (k+2)))))/\∃ k4:Nat,∃ i5:Nat,∃ t6:T,∃ z7:T,[iZ (k:Int),iZ (i:Int),AV.agg [iZ 5,iZ 0,AV.str ⟨⟨[46]⟩⟩,AV.slice 4 [zME a2,zME b3] Cap.any],AV.agg (tc (vN (k+1)))]=[iZ (k4:Int),iZ (i5:Int),AV.agg (tc t6),AV.agg (tc z7)]/\(k4<=1000000/\i5<=1000000)/\Rf (TV.l 6 2)/\Dn v (AV.rslice (RS.id x1) 0 (RS.n x1))/\Rf (TV.v (AV.agg (tc (vN (k+1)))))/\Rf (TV.v (AV.agg (tc (vN k))))/\Rf (TV.v (AV.agg (tc (vN (k+2)))))/\Rf (TV.v (iZ (k:Int)))/\Rf (TV.v (iZ (i:Int)))/\Rf (TV.v (AV.agg (tc (vZ k0))))/\Rf (TV.v (AV.agg (tc (vN (k+2)))))/\∃ a8:T,∃ b9:T,[AV.agg (tc (vN k)),AV.agg (tc (vN (k+2)))]=[AV.agg (tc a8),AV.agg (tc b9)]/\Rf (TV.l 6 2)/\Dn v (AV.rslice (RS.id x1) 0 (RS.n x1))/\Rf (TV.v (AV.agg (tc (vN (k+1)))))/\Rf (TV.v (iZ (k:Int)))/\Rf (TV.v (iZ (i:Int)))/\Rf (TV.v (AV.agg (tc (vZ k0))))/\Rf (TV.v (AV.agg (tc (vN (k+2)))))/\∃ a10:T,∃ b11:T,[AV.agg (tc (vN (k+1))),AV.agg [iZ 5,iZ 0,AV.str ⟨⟨[46]⟩⟩,AV.slice 4 [zME a8,zME b9] Cap.any]]=[AV.agg (tc a10),AV.agg (tc b11)]/\Rf (TV.l 6 2)/\Dn v (AV.rslice (RS.id x1) 0 (RS.n x1))/\Rf (TV.v (iZ (k:Int)))/\Rf (TV.v (iZ (i:Int)))/\Rf (TV.v (AV.agg (tc (vZ k0))))/\Rf (TV.v (AV.agg (tc (vN (k+2)))))/\∃ k12:Nat,∃ i13:Nat,∃ t14:T,∃ z15:T,[iZ (k:Int),iZ (i:Int),AV.agg (tc (vZ k0)),AV.agg (tc (vN (k+2)))]=[iZ (k12:Int),iZ (i13:Int),AV.agg (tc t14),AV.agg (tc z15)]/\(k12<=1000000/\i13<=1000000)/\Rf (TV.l 6 2)/\Dn v (AV.rslice (RS.id x1) 0 (RS.n x1))/\∃ l16:List T,∃ m17:Cap,[sT (zc9 k12 i13 t14 z15)]=[AV.slice 4 (tcellL l16) m17]/\Rf (TV.l 6 2)/\Dn v (AV.rslice (RS.id x1) 0 (RS.n x1))/\∃ h18:List T,∃ b19:List T,∃ hs20:List AV,∃ bs21:List AV,∃ m122:Cap,∃ m223:Cap,[sT (zc9 k4 i5 t6 z7),AV.slice 4 [AV.agg [iZ 5,iZ 0,AV.str ⟨⟨[61]⟩⟩,AV.slice 4 [zME a10,zME b11] Cap.any],AV.agg [iZ 5,iZ 0,AV.str ⟨⟨[109,101,114,103,101]⟩⟩,sT (T.l (zYS l16))]] Cap.full]=[AV.slice 4 hs20 m122,AV.slice 4 bs21 m223]/\(hs20=tcellL h18/\bs21=tcellL b19/\zXV { mark:=0,vars:=0,head:=h18,guard:=[],body:=b19 })/\Rf (TV.l 6 2)/\Dn v (AV.rslice (RS.id x1) 0 (RS.n x1))/\∃ a24:OE,zA6.objs (Ut (Ut (Ut (Ut (Ut (Ut (Ut (Ut σ)))))))) (RS.id x1)=zA5.cells (OE.cs a24) 189 5 (OE.g a24)/\((0:Nat)=0/\Bd ((RS.n x1)+1) 88/\(((RS.n x1)*5):Nat)<=List.length (OE.cs a24))/\∃ x'25:zUC,(I x'25/\LS.μ (zdG k I) x'25<LS.μ (zdG k I) (zUC.mk σ v i))/\Rf (TV.v (iZ (k:Int)))/\Rf (TV.l 2 0)/\Rf (TV.l 3 0)/\Rf (TV.l 4 0)/\Rf (TV.l 5 0)/\Rf (TV.l 6 0)/\TV.v (iZ (IntKind.wrap .i64 ((i:Int)+1)))=TV.v (iZ (zUC.i x'25:Int))/\Rf [AV.str ⟨⟨[]⟩⟩,iZ 0,AV.nilslice]/\Rf (tc (vN k))/\Rf (tc (vN (k+1)))/\Rf (tc (vN (k+2)))/\[AV.str ⟨⟨[109,101,114,103,101]⟩⟩,iZ (((k+1):Nat):Int),AV.rslice (zA6.next σ) 0 ((RS.n x1)+1)]=[AV.str ⟨⟨[109,101,114,103,101]⟩⟩,iZ (((k+1):Nat):Int),zUC.v x'25]/\zA6.Le ((zdG k I).3 x'25) (zA6.new (zA6.set (Ut (Ut (Ut (Ut (Ut (Ut (Ut (Ut σ)))))))) (RS.id x1) zA5.dead) (zA5.cells ((List.take ((RS.n x1)*5) (OE.cs a24))++[iZ (Cl.mark (zd2 { mark:=0,vars:=0,head:=h18,guard:=[],body:=b19 })),iZ (Cl.vars (zd2 { mark:=0,vars:=0,head:=h18,guard:=[],body:=b19 })),sT (Cl.head (zd2 { mark:=0,vars:=0,head:=h18,guard:=[],body:=b19 })),sT (Cl.guard (zd2 { mark:=0,vars:=0,head:=h18,guard:=[],body:=b19 })),sT (Cl.body (zd2 { mark:=0,vars:=0,head:=h18,guard:=[],body:=b19 }))]) 189 5 true))))
 (((i<k)->False)/\Rf (TV.v (iZ (k:Int)))/\Rf (TV.l 2 0)/\Rf (TV.l 4 0)/\Rf (TV.l 6 0)/\Rf [AV.str ⟨⟨[]⟩⟩,iZ 0,AV.nilslice]/\Rf (tc (vN (k+1)))/\Rf [AV.str ⟨⟨[109,101,114,103,101]⟩⟩,iZ (((k+1):Nat):Int),v]/\zA6.Le σ σ)):=by kernel_rfl
def zdJ (k:Nat) (I:zUC->Prop):LS zUC where
 F y:=[(0,.v (iZ (k:Int))),(2,.l 2 0),(4,.l 4 0),(6,.l 6 0),(9,.v (iZ (y.i:Int)))]
 FL y:=[(2,zdF),(4,tc (vN (k+1))),(6,[.str ⟨⟨[109,101,114,103,101]⟩⟩,iZ ((k+1:Nat):Int),y.v])]
 S y:=y.σ
 I:=I
 μ y:=k - y.i
 Ex y e a σ:=match e with
  | .exit 2=>¬ (y.i<k)/\atF a [(0,.v (iZ (k:Int))),(2,.l 2 0),(4,.l 4 0),(6,.l 6 0)] [(2,zdF),(4,tc (vN (k+1))),(6,[.str ⟨⟨[109,101,114,103,101]⟩⟩,iZ ((k+1:Nat):Int),y.v])] (y.σ.Le σ)
  | _=>False
theorem vc73b (k:Nat) (I:zUC->Prop) (σ:zA6) (v:AV) (i:Nat):(wpX [] (EV B w0 G) (H73 (EV B w0 G)) nL (zHI 73) N73 (lB 73 1) ((zdJ k I).post ⟨σ,v,i⟩) (frm ((zdJ k I).F ⟨σ,v,i⟩) ((zdJ k I).FL ⟨σ,v,i⟩)) σ) =
 (bcase (decide ((i:Int)<(k:Int)))
 ((v=AV.nilslice/\∃ s0:ByteArray,[AV.str ⟨⟨[91,93]⟩⟩]=[AV.str s0]/\Rf (TV.l 6 2)/\Dn v AV.nilslice/\Rf (TV.v (iZ (k:Int)))/\Rf (TV.v (iZ (i:Int)))/\Rf (TV.v (AV.agg (tc (vN (k+1)))))/\Rf (TV.v (iZ (k:Int)))/\Rf (TV.v (iZ (i:Int)))/\Rf (TV.v (AV.agg (tc (vN (k+1)))))/\∃ k1:Nat,∃ i2:Nat,∃ t3:T,∃ z4:T,[iZ (k:Int),iZ (i:Int),AV.agg [iZ 3,iZ 0,AV.str (T.s (T.mk 3 0 s0 [])),AV.slice 4 [] Cap.any],AV.agg (tc (vN (k+1)))]=[iZ (k1:Int),iZ (i2:Int),AV.agg (tc t3),AV.agg (tc z4)]/\(k1<=1000000/\i2<=1000000)/\Rf (TV.l 6 2)/\Dn v AV.nilslice/\Rf (TV.v (iZ (k:Int)))/\Rf (TV.v (iZ (i:Int)))/\Rf (TV.v (AV.agg (tc (vN (k+1)))))/\∃ k5:Nat,∃ i6:Nat,∃ z7:T,[iZ (k:Int),iZ (i:Int),AV.agg (tc (vN (k+1)))]=[iZ (k5:Int),iZ (i6:Int),AV.agg (tc z7)]/\(k5<=1000000/\i6<=1000000)/\Rf (TV.l 6 2)/\Dn v AV.nilslice/\∃ l8:List T,∃ m9:Cap,[sT (zcA k5 i6 z7)]=[AV.slice 4 (tcellL l8) m9]/\Rf (TV.l 6 2)/\Dn v AV.nilslice/\∃ h10:List T,∃ b11:List T,∃ hs12:List AV,∃ bs13:List AV,∃ m114:Cap,∃ m215:Cap,[sT (zc9 k1 i2 t3 z4),AV.slice 4 [AV.agg [iZ 5,iZ 0,AV.str ⟨⟨[109,101,114,103,101]⟩⟩,sT (T.l (zYS l8))]] Cap.full]=[AV.slice 4 hs12 m114,AV.slice 4 bs13 m215]/\(hs12=tcellL h10/\bs13=tcellL b11/\zXV { mark:=0,vars:=0,head:=h10,guard:=[],body:=b11 })/\Rf (TV.l 6 2)/\Dn v AV.nilslice/\Bd0 88 1/\∃ x'16:zUC,(I x'16/\LS.μ (zdJ k I) x'16<LS.μ (zdJ k I) (zUC.mk σ v i))/\Rf (TV.v (iZ (k:Int)))/\Rf (TV.l 2 0)/\Rf (TV.l 4 0)/\Rf (TV.l 6 0)/\TV.v (iZ (IntKind.wrap .i64 ((i:Int)+1)))=TV.v (iZ (zUC.i x'16:Int))/\Rf [AV.str ⟨⟨[]⟩⟩,iZ 0,AV.nilslice]/\Rf (tc (vN (k+1)))/\[AV.str ⟨⟨[109,101,114,103,101]⟩⟩,iZ (((k+1):Nat):Int),AV.rslice (zA6.next σ) 0 1]=[AV.str ⟨⟨[109,101,114,103,101]⟩⟩,iZ (((k+1):Nat):Int),zUC.v x'16]/\zA6.Le ((zdJ k I).3 x'16) (zA6.new (Ut (Ut (Ut (Ut (Ut σ))))) (zA5.cells [iZ (Cl.mark (zd2 { mark:=0,vars:=0,head:=h10,guard:=[],body:=b11 })),iZ (Cl.vars (zd2 { mark:=0,vars:=0,head:=h10,guard:=[],body:=b11 })),sT (Cl.head (zd2 { mark:=0,vars:=0,head:=h10,guard:=[],body:=b11 })),sT (Cl.guard (zd2 { mark:=0,vars:=0,head:=h10,guard:=[],body:=b11 })),sT (Cl.body (zd2 { mark:=0,vars:=0,head:=h10,guard:=[],body:=b11 }))] 189 5 true)))\/∃ x0:RS,v=AV.rslice (RS.id x0) 0 (RS.n x0)/\∃ s1:ByteArray,[AV.str ⟨⟨[91,93]⟩⟩]=[AV.str s1]/\Rf (TV.l 6 2)/\Dn v (AV.rslice (RS.id x0) 0 (RS.n x0))/\Rf (TV.v (iZ (k:Int)))/\Rf (TV.v (iZ (i:Int)))/\Rf (TV.v (AV.agg (tc (vN (k+1)))))/\Rf (TV.v (iZ (k:Int)))/\Rf (TV.v (iZ (i:Int)))/\Rf (TV.v (AV.agg (tc (vN (k+1)))))/\∃ k2:Nat,∃ i3:Nat,∃ t4:T,∃ z5:T,[iZ (k:Int),iZ (i:Int),AV.agg [iZ 3,iZ 0,AV.str (T.s (T.mk 3 0 s1 [])),AV.slice 4 [] Cap.any],AV.agg (tc (vN (k+1)))]=[iZ (k2:Int),iZ (i3:Int),AV.agg (tc t4),AV.agg (tc z5)]/\(k2<=1000000/\i3<=1000000)/\Rf (TV.l 6 2)/\Dn v (AV.rslice (RS.id x0) 0 (RS.n x0))/\Rf (TV.v (iZ (k:Int)))/\Rf (TV.v (iZ (i:Int)))/\Rf (TV.v (AV.agg (tc (vN (k+1)))))/\∃ k6:Nat,∃ i7:Nat,∃ z8:T,[iZ (k:Int),iZ (i:Int),AV.agg (tc (vN (k+1)))]=[iZ (k6:Int),iZ (i7:Int),AV.agg (tc z8)]/\(k6<=1000000/\i7<=1000000)/\Rf (TV.l 6 2)/\Dn v (AV.rslice (RS.id x0) 0 (RS.n x0))/\∃ l9:List T,∃ m10:Cap,[sT (zcA k6 i7 z8)]=[AV.slice 4 (tcellL l9) m10]/\Rf (TV.l 6 2)/\Dn v (AV.rslice (RS.id x0) 0 (RS.n x0))/\∃ h11:List T,∃ b12:List T,∃ hs13:List AV,∃ bs14:List AV,∃ m115:Cap,∃ m216:Cap,[sT (zc9 k2 i3 t4 z5),AV.slice 4 [AV.agg [iZ 5,iZ 0,AV.str ⟨⟨[109,101,114,103,101]⟩⟩,sT (T.l (zYS l9))]] Cap.full]=[AV.slice 4 hs13 m115,AV.slice 4 bs14 m216]/\(hs13=tcellL h11/\bs14=tcellL b12/\zXV { mark:=0,vars:=0,head:=h11,guard:=[],body:=b12 })/\Rf (TV.l 6 2)/\Dn v (AV.rslice (RS.id x0) 0 (RS.n x0))/\∃ a17:OE,zA6.objs (Ut (Ut (Ut (Ut (Ut σ))))) (RS.id x0)=zA5.cells (OE.cs a17) 189 5 (OE.g a17)/\((0:Nat)=0/\Bd ((RS.n x0)+1) 88/\(((RS.n x0)*5):Nat)<=List.length (OE.cs a17))/\∃ x'18:zUC,(I x'18/\LS.μ (zdJ k I) x'18<LS.μ (zdJ k I) (zUC.mk σ v i))/\Rf (TV.v (iZ (k:Int)))/\Rf (TV.l 2 0)/\Rf (TV.l 4 0)/\Rf (TV.l 6 0)/\TV.v (iZ (IntKind.wrap .i64 ((i:Int)+1)))=TV.v (iZ (zUC.i x'18:Int))/\Rf [AV.str ⟨⟨[]⟩⟩,iZ 0,AV.nilslice]/\Rf (tc (vN (k+1)))/\[AV.str ⟨⟨[109,101,114,103,101]⟩⟩,iZ (((k+1):Nat):Int),AV.rslice (zA6.next σ) 0 ((RS.n x0)+1)]=[AV.str ⟨⟨[109,101,114,103,101]⟩⟩,iZ (((k+1):Nat):Int),zUC.v x'18]/\zA6.Le ((zdJ k I).3 x'18) (zA6.new (zA6.set (Ut (Ut (Ut (Ut (Ut σ))))) (RS.id x0) zA5.dead) (zA5.cells ((List.take ((RS.n x0)*5) (OE.cs a17))++[iZ (Cl.mark (zd2 { mark:=0,vars:=0,head:=h11,guard:=[],body:=b12 })),iZ (Cl.vars (zd2 { mark:=0,vars:=0,head:=h11,guard:=[],body:=b12 })),sT (Cl.head (zd2 { mark:=0,vars:=0,head:=h11,guard:=[],body:=b12 })),sT (Cl.guard (zd2 { mark:=0,vars:=0,head:=h11,guard:=[],body:=b12 })),sT (Cl.body (zd2 { mark:=0,vars:=0,head:=h11,guard:=[],body:=b12 }))]) 189 5 true)))
 (((i<k)->False)/\Rf (TV.v (iZ (k:Int)))/\Rf (TV.l 2 0)/\Rf (TV.l 4 0)/\Rf (TV.l 6 0)/\Rf [AV.str ⟨⟨[]⟩⟩,iZ 0,AV.nilslice]/\Rf (tc (vN (k+1)))/\Rf [AV.str ⟨⟨[109,101,114,103,101]⟩⟩,iZ (((k+1):Nat):Int),v]/\zA6.Le σ σ)):=by kernel_rfl
def T73a (k:Nat) (I R:zUC->Prop):zFV:=fun _ Q a σ=>∃ y:zUC,I y/\atF a ((zdG k I).F y) ((zdG k I).FL y) (y.σ.Le σ) /\
 ∀ y':zUC,R y'->Q (.exit 0) (frm [(0,.v (iZ (k:Int))),(2,.l 2 0),(4,.l 4 0),(6,.l 6 0)] [(2,zdF),(4,tc (vN (k+1))),(6,[.str ⟨⟨[109,101,114,103,101]⟩⟩,iZ ((k+1:Nat):Int),y'.v])]) y'.σ
def T73b (k:Nat) (I:zUC->Prop) (R:zA6->AV->Prop):zFV:=fun _ Q a σ=>∃ y:zUC,I y/\atF a ((zdJ k I).F y) ((zdJ k I).FL y) (y.σ.Le σ) /\
 ((∀ σ':zA6,R σ' .nilslice->Q (.exit 2) (frm [(0,.v (iZ (k:Int))),(2,.l 2 0),(4,.l 4 0),(6,.l 6 0)] [(2,zdF),(4,tc (vN (k+1))),(6,[.str ⟨⟨[109,101,114,103,101]⟩⟩,iZ ((k+1:Nat):Int),.nilslice])]) σ') /\
  (∀ (σ':zA6) (id m:Nat),R σ' (.rslice id 0 m)->Q (.exit 2) (frm [(0,.v (iZ (k:Int))),(2,.l 2 0),(4,.l 4 0),(6,.l 6 0)] [(2,zdF),(4,tc (vN (k+1))),(6,[.str ⟨⟨[109,101,114,103,101]⟩⟩,iZ ((k+1:Nat):Int),.rslice id 0 m])]) σ'))
theorem vc73 (k:Nat) (I R Ib:zUC->Prop) (Rb:zA6->AV->Prop) (Q:AV->zA6->Prop):(zKD [] (EV B w0 G) (H73 (EV B w0 G)) (zKK [(6,T73a k I R),(11,T73b k Ib Rb)]) zHI N73 73 [iZ (k:Int)] zJZ Q) =
 (∃ k0:Int,[iZ (k:Int)]=[iZ k0]/\∃ k1:Int,[iZ (IntKind.wrap .i64 ((k:Int)+1))]=[iZ k1]/\∃ k2:Int,[iZ (IntKind.wrap .i64 ((k:Int)+2))]=[iZ k2]/\∃ y3:zUC,I y3/\(Rf (TV.v (iZ (k:Int)))/\Rf (TV.l 2 0)/\Rf (TV.l 3 0)/\Rf (TV.l 4 0)/\Rf (TV.l 5 0)/\Rf (TV.l 6 0)/\TV.v (iZ 0)=TV.v (iZ (zUC.i y3:Int))/\Rf [AV.str ⟨⟨[]⟩⟩,iZ 0,AV.nilslice]/\(tc (vZ k0))=(tc (vN k))/\(tc (vZ k1))=(tc (vN (k+1)))/\(tc (vZ k2))=(tc (vN (k+2)))/\[AV.str ⟨⟨[109,101,114,103,101]⟩⟩,iZ (IntKind.wrap .i64 ((k:Int)+1)),AV.nilslice]=[AV.str ⟨⟨[109,101,114,103,101]⟩⟩,iZ (((k+1):Nat):Int),zUC.v y3]/\zA6.Le y3.1 (Ut (Ut (Ut zJZ))))/\(∀ y'4:zUC,((R y'4)->(∃ y5:zUC,Ib y5/\(Rf (TV.v (iZ (k:Int)))/\Rf (TV.l 2 0)/\Rf (TV.l 4 0)/\Rf (TV.l 6 0)/\TV.v (iZ 0)=TV.v (iZ (zUC.i y5:Int))/\Rf [AV.str ⟨⟨[]⟩⟩,iZ 0,AV.nilslice]/\Rf (tc (vN (k+1)))/\[AV.str ⟨⟨[109,101,114,103,101]⟩⟩,iZ (((k+1):Nat):Int),zUC.v y'4]=[AV.str ⟨⟨[109,101,114,103,101]⟩⟩,iZ (((k+1):Nat):Int),zUC.v y5]/\zA6.Le y5.1 y'4.1)/\(∀ σ'6:zA6,((Rb σ'6 AV.nilslice)->(bcase ((k:Int)==0)
 ((Rf AV.nilslice/\∃ s7:ByteArray,[AV.str ⟨⟨[91,93]⟩⟩]=[AV.str s7]/\Rf (TV.l 6 2)/\((Rf AV.nilslice/\Rf (TV.v AV.nilslice))\/∃ x8:RS,AV.nilslice=AV.rslice (RS.id x8) 0 (RS.n x8)/\TV.v (AV.rslice (RS.id x8) 0 (RS.n x8))=TV.v AV.nilslice)/\Rf (TV.v (AV.agg (tc (vN (k+1)))))/\Rf (TV.v (AV.slice 4 [AV.agg (tc (vN (k+1)))] Cap.full))/\Rf (TV.v (AV.agg (tc (vN (k+1)))))/\∃ a8:T,∃ b9:T,[AV.agg (tc (vN (k+1))),AV.agg [iZ 3,iZ 0,AV.str (T.s (T.mk 3 0 s7 [])),AV.slice 4 [] Cap.any]]=[AV.agg (tc a8),AV.agg (tc b9)]/\Rf (TV.l 6 2)/\((Rf AV.nilslice/\Rf (TV.v AV.nilslice))\/∃ x10:RS,AV.nilslice=AV.rslice (RS.id x10) 0 (RS.n x10)/\TV.v (AV.rslice (RS.id x10) 0 (RS.n x10))=TV.v AV.nilslice)/\Rf (TV.v (AV.agg (tc (vN (k+1)))))/\Rf (TV.v (AV.slice 4 [AV.agg (tc (vN (k+1)))] Cap.full))/\∃ h10:List T,∃ b11:List T,∃ hs12:List AV,∃ bs13:List AV,∃ m114:Cap,∃ m215:Cap,[AV.slice 4 [AV.agg (tc (vN (k+1)))] Cap.full,AV.slice 4 [AV.agg [iZ 5,iZ 0,AV.str ⟨⟨[61]⟩⟩,AV.slice 4 [zME a8,zME b9] Cap.any]] Cap.full]=[AV.slice 4 hs12 m114,AV.slice 4 bs13 m215]/\(hs12=tcellL h10/\bs13=tcellL b11/\zXV { mark:=0,vars:=0,head:=h10,guard:=[],body:=b11 })/\Rf (TV.l 6 2)/\((Rf AV.nilslice/\Rf (TV.v AV.nilslice))\/∃ x16:RS,AV.nilslice=AV.rslice (RS.id x16) 0 (RS.n x16)/\TV.v (AV.rslice (RS.id x16) 0 (RS.n x16))=TV.v AV.nilslice)/\Bd0 88 1/\Q (AV.agg [AV.str ⟨⟨[109,101,114,103,101]⟩⟩,iZ (((k+1):Nat):Int),AV.rslice (zA6.next σ'6) 0 1]) (zA6.new (Ut (Ut (Ut σ'6))) (zA5.cells [iZ (Cl.mark (zd2 { mark:=0,vars:=0,head:=h10,guard:=[],body:=b11 })),iZ (Cl.vars (zd2 { mark:=0,vars:=0,head:=h10,guard:=[],body:=b11 })),sT (Cl.head (zd2 { mark:=0,vars:=0,head:=h10,guard:=[],body:=b11 })),sT (Cl.guard (zd2 { mark:=0,vars:=0,head:=h10,guard:=[],body:=b11 })),sT (Cl.body (zd2 { mark:=0,vars:=0,head:=h10,guard:=[],body:=b11 }))] 189 5 true)))\/∃ x7:RS,AV.nilslice=AV.rslice (RS.id x7) 0 (RS.n x7)/\∃ s8:ByteArray,[AV.str ⟨⟨[91,93]⟩⟩]=[AV.str s8]/\Rf (TV.l 6 2)/\((Rf AV.nilslice/\TV.v AV.nilslice=TV.v (AV.rslice (RS.id x7) 0 (RS.n x7)))\/∃ x9:RS,AV.nilslice=AV.rslice (RS.id x9) 0 (RS.n x9)/\TV.v (AV.rslice (RS.id x9) 0 (RS.n x9))=TV.v (AV.rslice (RS.id x7) 0 (RS.n x7)))/\Rf (TV.v (AV.agg (tc (vN (k+1)))))/\Rf (TV.v (AV.slice 4 [AV.agg (tc (vN (k+1)))] Cap.full))/\Rf (TV.v (AV.agg (tc (vN (k+1)))))/\∃ a9:T,∃ b10:T,[AV.agg (tc (vN (k+1))),AV.agg [iZ 3,iZ 0,AV.str (T.s (T.mk 3 0 s8 [])),AV.slice 4 [] Cap.any]]=[AV.agg (tc a9),AV.agg (tc b10)]/\Rf (TV.l 6 2)/\((Rf AV.nilslice/\TV.v AV.nilslice=TV.v (AV.rslice (RS.id x7) 0 (RS.n x7)))\/∃ x11:RS,AV.nilslice=AV.rslice (RS.id x11) 0 (RS.n x11)/\TV.v (AV.rslice (RS.id x11) 0 (RS.n x11))=TV.v (AV.rslice (RS.id x7) 0 (RS.n x7)))/\Rf (TV.v (AV.agg (tc (vN (k+1)))))/\Rf (TV.v (AV.slice 4 [AV.agg (tc (vN (k+1)))] Cap.full))/\∃ h11:List T,∃ b12:List T,∃ hs13:List AV,∃ bs14:List AV,∃ m115:Cap,∃ m216:Cap,[AV.slice 4 [AV.agg (tc (vN (k+1)))] Cap.full,AV.slice 4 [AV.agg [iZ 5,iZ 0,AV.str ⟨⟨[61]⟩⟩,AV.slice 4 [zME a9,zME b10] Cap.any]] Cap.full]=[AV.slice 4 hs13 m115,AV.slice 4 bs14 m216]/\(hs13=tcellL h11/\bs14=tcellL b12/\zXV { mark:=0,vars:=0,head:=h11,guard:=[],body:=b12 })/\Rf (TV.l 6 2)/\((Rf AV.nilslice/\TV.v AV.nilslice=TV.v (AV.rslice (RS.id x7) 0 (RS.n x7)))\/∃ x17:RS,AV.nilslice=AV.rslice (RS.id x17) 0 (RS.n x17)/\TV.v (AV.rslice (RS.id x17) 0 (RS.n x17))=TV.v (AV.rslice (RS.id x7) 0 (RS.n x7)))/\∃ a17:OE,zA6.objs (Ut (Ut (Ut σ'6))) (RS.id x7)=zA5.cells (OE.cs a17) 189 5 (OE.g a17)/\((0:Nat)=0/\Bd ((RS.n x7)+1) 88/\(((RS.n x7)*5):Nat)<=List.length (OE.cs a17))/\Q (AV.agg [AV.str ⟨⟨[109,101,114,103,101]⟩⟩,iZ (((k+1):Nat):Int),AV.rslice (zA6.next σ'6) 0 ((RS.n x7)+1)]) (zA6.new (zA6.set (Ut (Ut (Ut σ'6))) (RS.id x7) zA5.dead) (zA5.cells ((List.take ((RS.n x7)*5) (OE.cs a17))++[iZ (Cl.mark (zd2 { mark:=0,vars:=0,head:=h11,guard:=[],body:=b12 })),iZ (Cl.vars (zd2 { mark:=0,vars:=0,head:=h11,guard:=[],body:=b12 })),sT (Cl.head (zd2 { mark:=0,vars:=0,head:=h11,guard:=[],body:=b12 })),sT (Cl.guard (zd2 { mark:=0,vars:=0,head:=h11,guard:=[],body:=b12 })),sT (Cl.body (zd2 { mark:=0,vars:=0,head:=h11,guard:=[],body:=b12 }))]) 189 5 true)))
 (Q (AV.agg [AV.str ⟨⟨[109,101,114,103,101]⟩⟩,iZ (((k+1):Nat):Int),AV.nilslice]) σ'6))))/\(∀ σ'6:zA6,(∀ id7:Nat,(∀ m8:Nat,((Rb σ'6 (AV.rslice id7 0 m8))->(bcase ((k:Int)==0)
 ((AV.rslice id7 0 m8=AV.nilslice/\∃ s9:ByteArray,[AV.str ⟨⟨[91,93]⟩⟩]=[AV.str s9]/\Rf (TV.l 6 2)/\((AV.rslice id7 0 m8=AV.nilslice/\Rf (TV.v AV.nilslice))\/∃ x10:RS,AV.rslice id7 0 m8=AV.rslice (RS.id x10) 0 (RS.n x10)/\TV.v (AV.rslice (RS.id x10) 0 (RS.n x10))=TV.v AV.nilslice)/\Rf (TV.v (AV.agg (tc (vN (k+1)))))/\Rf (TV.v (AV.slice 4 [AV.agg (tc (vN (k+1)))] Cap.full))/\Rf (TV.v (AV.agg (tc (vN (k+1)))))/\∃ a10:T,∃ b11:T,[AV.agg (tc (vN (k+1))),AV.agg [iZ 3,iZ 0,AV.str (T.s (T.mk 3 0 s9 [])),AV.slice 4 [] Cap.any]]=[AV.agg (tc a10),AV.agg (tc b11)]/\Rf (TV.l 6 2)/\((AV.rslice id7 0 m8=AV.nilslice/\Rf (TV.v AV.nilslice))\/∃ x12:RS,AV.rslice id7 0 m8=AV.rslice (RS.id x12) 0 (RS.n x12)/\TV.v (AV.rslice (RS.id x12) 0 (RS.n x12))=TV.v AV.nilslice)/\Rf (TV.v (AV.agg (tc (vN (k+1)))))/\Rf (TV.v (AV.slice 4 [AV.agg (tc (vN (k+1)))] Cap.full))/\∃ h12:List T,∃ b13:List T,∃ hs14:List AV,∃ bs15:List AV,∃ m116:Cap,∃ m217:Cap,[AV.slice 4 [AV.agg (tc (vN (k+1)))] Cap.full,AV.slice 4 [AV.agg [iZ 5,iZ 0,AV.str ⟨⟨[61]⟩⟩,AV.slice 4 [zME a10,zME b11] Cap.any]] Cap.full]=[AV.slice 4 hs14 m116,AV.slice 4 bs15 m217]/\(hs14=tcellL h12/\bs15=tcellL b13/\zXV { mark:=0,vars:=0,head:=h12,guard:=[],body:=b13 })/\Rf (TV.l 6 2)/\((AV.rslice id7 0 m8=AV.nilslice/\Rf (TV.v AV.nilslice))\/∃ x18:RS,AV.rslice id7 0 m8=AV.rslice (RS.id x18) 0 (RS.n x18)/\TV.v (AV.rslice (RS.id x18) 0 (RS.n x18))=TV.v AV.nilslice)/\Bd0 88 1/\Q (AV.agg [AV.str ⟨⟨[109,101,114,103,101]⟩⟩,iZ (((k+1):Nat):Int),AV.rslice (zA6.next σ'6) 0 1]) (zA6.new (Ut (Ut (Ut σ'6))) (zA5.cells [iZ (Cl.mark (zd2 { mark:=0,vars:=0,head:=h12,guard:=[],body:=b13 })),iZ (Cl.vars (zd2 { mark:=0,vars:=0,head:=h12,guard:=[],body:=b13 })),sT (Cl.head (zd2 { mark:=0,vars:=0,head:=h12,guard:=[],body:=b13 })),sT (Cl.guard (zd2 { mark:=0,vars:=0,head:=h12,guard:=[],body:=b13 })),sT (Cl.body (zd2 { mark:=0,vars:=0,head:=h12,guard:=[],body:=b13 }))] 189 5 true)))\/∃ x9:RS,AV.rslice id7 0 m8=AV.rslice (RS.id x9) 0 (RS.n x9)/\∃ s10:ByteArray,[AV.str ⟨⟨[91,93]⟩⟩]=[AV.str s10]/\Rf (TV.l 6 2)/\((AV.rslice id7 0 m8=AV.nilslice/\TV.v AV.nilslice=TV.v (AV.rslice (RS.id x9) 0 (RS.n x9)))\/∃ x11:RS,AV.rslice id7 0 m8=AV.rslice (RS.id x11) 0 (RS.n x11)/\TV.v (AV.rslice (RS.id x11) 0 (RS.n x11))=TV.v (AV.rslice (RS.id x9) 0 (RS.n x9)))/\Rf (TV.v (AV.agg (tc (vN (k+1)))))/\Rf (TV.v (AV.slice 4 [AV.agg (tc (vN (k+1)))] Cap.full))/\Rf (TV.v (AV.agg (tc (vN (k+1)))))/\∃ a11:T,∃ b12:T,[AV.agg (tc (vN (k+1))),AV.agg [iZ 3,iZ 0,AV.str (T.s (T.mk 3 0 s10 [])),AV.slice 4 [] Cap.any]]=[AV.agg (tc a11),AV.agg (tc b12)]/\Rf (TV.l 6 2)/\((AV.rslice id7 0 m8=AV.nilslice/\TV.v AV.nilslice=TV.v (AV.rslice (RS.id x9) 0 (RS.n x9)))\/∃ x13:RS,AV.rslice id7 0 m8=AV.rslice (RS.id x13) 0 (RS.n x13)/\TV.v (AV.rslice (RS.id x13) 0 (RS.n x13))=TV.v (AV.rslice (RS.id x9) 0 (RS.n x9)))/\Rf (TV.v (AV.agg (tc (vN (k+1)))))/\Rf (TV.v (AV.slice 4 [AV.agg (tc (vN (k+1)))] Cap.full))/\∃ h13:List T,∃ b14:List T,∃ hs15:List AV,∃ bs16:List AV,∃ m117:Cap,∃ m218:Cap,[AV.slice 4 [AV.agg (tc (vN (k+1)))] Cap.full,AV.slice 4 [AV.agg [iZ 5,iZ 0,AV.str ⟨⟨[61]⟩⟩,AV.slice 4 [zME a11,zME b12] Cap.any]] Cap.full]=[AV.slice 4 hs15 m117,AV.slice 4 bs16 m218]/\(hs15=tcellL h13/\bs16=tcellL b14/\zXV { mark:=0,vars:=0,head:=h13,guard:=[],body:=b14 })/\Rf (TV.l 6 2)/\((AV.rslice id7 0 m8=AV.nilslice/\TV.v AV.nilslice=TV.v (AV.rslice (RS.id x9) 0 (RS.n x9)))\/∃ x19:RS,AV.rslice id7 0 m8=AV.rslice (RS.id x19) 0 (RS.n x19)/\TV.v (AV.rslice (RS.id x19) 0 (RS.n x19))=TV.v (AV.rslice (RS.id x9) 0 (RS.n x9)))/\∃ a19:OE,zA6.objs (Ut (Ut (Ut σ'6))) (RS.id x9)=zA5.cells (OE.cs a19) 189 5 (OE.g a19)/\((0:Nat)=0/\Bd ((RS.n x9)+1) 88/\(((RS.n x9)*5):Nat)<=List.length (OE.cs a19))/\Q (AV.agg [AV.str ⟨⟨[109,101,114,103,101]⟩⟩,iZ (((k+1):Nat):Int),AV.rslice (zA6.next σ'6) 0 ((RS.n x9)+1)]) (zA6.new (zA6.set (Ut (Ut (Ut σ'6))) (RS.id x9) zA5.dead) (zA5.cells ((List.take ((RS.n x9)*5) (OE.cs a19))++[iZ (Cl.mark (zd2 { mark:=0,vars:=0,head:=h13,guard:=[],body:=b14 })),iZ (Cl.vars (zd2 { mark:=0,vars:=0,head:=h13,guard:=[],body:=b14 })),sT (Cl.head (zd2 { mark:=0,vars:=0,head:=h13,guard:=[],body:=b14 })),sT (Cl.guard (zd2 { mark:=0,vars:=0,head:=h13,guard:=[],body:=b14 })),sT (Cl.body (zd2 { mark:=0,vars:=0,head:=h13,guard:=[],body:=b14 }))]) 189 5 true)))
 (Q (AV.agg [AV.str ⟨⟨[109,101,114,103,101]⟩⟩,iZ (((k+1):Nat):Int),AV.rslice id7 0 m8]) σ'6)))))))))):=by kernel_rfl
def zdK (n:Nat) (I:zUC->Prop):LS zUC where
 F y:=[(0,.v (iZ (n:Int))),(2,.l 2 0),(4,.l 4 0),(5,.v (iZ (y.i:Int)))]
 FL y:=[(2,[.nilslice]),(4,[y.v])]
 S y:=y.σ
 I:=I
 μ y:=n+1 - y.i
 Ex y e a σ:=match e with
  | .exit 0=>¬ (y.i<=n)/\atF a [(2,.l 2 0),(4,.l 4 0)] [(2,[.nilslice]),(4,[y.v])] (y.σ.Le σ)
  | _=>False
theorem zdL:zKE Tryz.prog [] 34=[.loop (lB 34 0)]:=by kernel_rfl
theorem vc34l (n:Nat) (I:zUC->Prop) (σ:zA6) (v:AV) (i:Nat):(wpX [] (EV B w0 G) (hnd (EV B w0 G) zHI zMU [(73,C73)]) nL (zHI 34) (hAt [(7,1,zP6),(7,5,hEl 137 3)]) (lB 34 0) ((zdK n I).post ⟨σ,v,i⟩) (frm ((zdK n I).F ⟨σ,v,i⟩) ((zdK n I).FL ⟨σ,v,i⟩)) σ) =
 (bcase (decide ((i:Int)<=(n:Int)))
 ((v=AV.nilslice/\∃ k0:Nat,[iZ (i:Int)]=[iZ (k0:Int)]/\k0<=8/\Rf (TV.l 4 0)/\Dn v AV.nilslice/\Bd0 48 1/\∃ x'1:zUC,(I x'1/\LS.μ (zdK n I) x'1<LS.μ (zdK n I) (zUC.mk σ v i))/\Rf (TV.v (iZ (n:Int)))/\Rf (TV.l 2 0)/\Rf (TV.l 4 0)/\TV.v (iZ (IntKind.wrap .i64 ((i:Int)+1)))=TV.v (iZ (zUC.i x'1:Int))/\Rf [AV.nilslice]/\[AV.rslice (zA6.next σ) 0 1]=[zUC.v x'1]/\zA6.Le ((zdK n I).3 x'1) (zA6.new (Ut σ) (zA5.cells [AV.str ⟨⟨[109,101,114,103,101]⟩⟩,iZ (Pr.arity (zdE k0)),AV.slice 5 (List.map clV (Pr.cls (zdE k0))) Cap.any] 137 3 true)))\/∃ x0:RS,v=AV.rslice (RS.id x0) 0 (RS.n x0)/\∃ k1:Nat,[iZ (i:Int)]=[iZ (k1:Int)]/\k1<=8/\Rf (TV.l 4 0)/\Dn v (AV.rslice (RS.id x0) 0 (RS.n x0))/\∃ a2:OE,zA6.objs (Ut σ) (RS.id x0)=zA5.cells (OE.cs a2) 137 3 (OE.g a2)/\((0:Nat)=0/\Bd ((RS.n x0)+1) 48/\(((RS.n x0)*3):Nat)<=List.length (OE.cs a2))/\∃ x'3:zUC,(I x'3/\LS.μ (zdK n I) x'3<LS.μ (zdK n I) (zUC.mk σ v i))/\Rf (TV.v (iZ (n:Int)))/\Rf (TV.l 2 0)/\Rf (TV.l 4 0)/\TV.v (iZ (IntKind.wrap .i64 ((i:Int)+1)))=TV.v (iZ (zUC.i x'3:Int))/\Rf [AV.nilslice]/\[AV.rslice (zA6.next σ) 0 ((RS.n x0)+1)]=[zUC.v x'3]/\zA6.Le ((zdK n I).3 x'3) (zA6.new (zA6.set (Ut σ) (RS.id x0) zA5.dead) (zA5.cells ((List.take ((RS.n x0)*3) (OE.cs a2))++[AV.str ⟨⟨[109,101,114,103,101]⟩⟩,iZ (Pr.arity (zdE k1)),AV.slice 5 (List.map clV (Pr.cls (zdE k1))) Cap.any]) 137 3 true)))
 (((i<=n)->False)/\Rf (TV.l 2 0)/\Rf (TV.l 4 0)/\Rf [AV.nilslice]/\Rf [v]/\zA6.Le σ σ)):=by kernel_rfl
def T34 (z:Int) (P:Nat->Prop) (I:Nat->zUC->Prop) (R:zA6->AV->Prop):zFV:=fun _ Q a σ=>∃ (n:Nat) (y:zUC),(P n/\I n y)/\atF a ((zdK n (I n)).F y) ((zdK n (I n)).FL y) (y.σ.Le σ) /\
 ((∀ σ':zA6,R σ' .nilslice->Q (.exit 0) (frm [(2,.l 2 0),(4,.l 4 0)] [(2,[.nilslice]),(4,[.nilslice])]) σ') /\
  (∀ (σ':zA6) (id m:Nat),R σ' (.rslice id 0 m)->Q (.exit 0) (frm [(2,.l 2 0),(4,.l 4 0)] [(2,[.nilslice]),(4,[.rslice id 0 m])]) σ'))
theorem vc34 (z:Int) (P:Nat->Prop) (I:Nat->zUC->Prop) (R:zA6->AV->Prop) (Q:AV->zA6->Prop):(zKD [] (EV B w0 G) (hnd (EV B w0 G) zHI zMU [(73,C73)]) (T34 z P I R) zHI zMV 34 [iZ z] zJZ Q) =
 (bcase (decide ((z:Int)<0))
 (Q (AV.tuple [AV.agg [AV.nilslice],iZ 1]) zJZ)
 (bcase (decide ((z:Int) > 8))
 (Q (AV.tuple [AV.agg [AV.nilslice],iZ 1]) zJZ)
 (∃ n0:Nat,∃ y1:zUC,(P n0/\I n0 y1)/\(TV.v (iZ z)=TV.v (iZ (n0:Int))/\Rf (TV.l 2 0)/\Rf (TV.l 4 0)/\TV.v (iZ 0)=TV.v (iZ (zUC.i y1:Int))/\Rf [AV.nilslice]/\[AV.nilslice]=[zUC.v y1]/\zA6.Le y1.1 zJZ)/\(∀ σ'2:zA6,((R σ'2 AV.nilslice)->(Q (AV.tuple [AV.agg [AV.nilslice],iZ 0]) σ'2)))/\(∀ σ'2:zA6,(∀ id3:Nat,(∀ m4:Nat,((R σ'2 (AV.rslice id3 0 m4))->(Q (AV.tuple [AV.agg [AV.rslice id3 0 m4],iZ 0]) σ'2)))))))):=by kernel_rfl
end Go.V
set_option linter.unusedSimpArgs false
set_option linter.unusedSectionVars false
namespace Go.V
open Go Go.Proofs

def zdM {α:Type} (tid sz:Nat) (V:α->List AV) (σ:zA6) (v:AV) (acc:List α):Prop:=zaI tid sz σ v acc.length (zA0 (acc.map fun x => .agg (V x)))
theorem zdM.cases {α:Type} {tid sz:Nat} {V:α->List AV} (hV:∀ x,(V x).length=sz) {σ:zA6} {v:AV} {acc:List α} (h:zdM tid sz V σ v acc) :
  (v = .nilslice/\∀ x,zdM tid sz V (σ.new (.cells (V x) tid sz true)) (.rslice σ.next 0 1) (acc++[x])) \/
  ∃ (id:Nat) (cs:List AV) (g:Bool),v = .rslice id 0 acc.length/\σ.objs id = .cells cs tid sz g/\acc.length*sz<=cs.length /\
   ∀ x,zdM tid sz V ((σ.set id .dead).new (.cells (cs.take (acc.length*sz)++V x) tid sz true)) (.rslice σ.next 0 (acc.length+1)) (acc++[x]):=by
 have e:∀ x,zA0 ((acc++[x]).map fun x=>AV.agg (V x))=zA0 (acc.map fun x => .agg (V x))++V x:=fun x=>by
  rw [List.map_append,zC4]
  congr 1
  show V x++[]=_
  rw [List.append_nil]
 rcases h with ⟨rfl,h0,h1⟩ | ⟨id,cs,g,rfl,hlt,ho,hcl,hcs⟩
 ·refine .inl ⟨rfl,fun x => ?_⟩
  unfold zdM
  rw [e,List.length_append,h0]
  have:=zaI.first (tid:=tid) (sz:=sz) (k:=1) (σ:=σ) (new:=V x) h0 h1 (by rw [hV,Nat.one_mul])
  rw [h0] at this
  exact this
 ·refine .inr ⟨id,cs,g,rfl,ho,hcl,fun x => ?_⟩
  unfold zdM
  rw [e,List.length_append]
  exact zaI.more (k:=1) hcl hcs (by rw [hV,Nat.one_mul])
theorem zdM.untok {α:Type} {tid sz:Nat} {V:α->List AV} {σ:zA6} {v:AV} {acc:List α} (h:zdM tid sz V σ v acc):zdM tid sz V σ.untok v acc:=zaI.untok h
theorem zdM.none {α:Type} {tid sz:Nat} {V:α->List AV} {σ:zA6}:zdM tid sz V σ .nilslice ([]:List α):=.inl ⟨rfl,rfl,rfl⟩
theorem zdN (c:Cl):(zXW c).length=5:=rfl
theorem prLen (q:Pr):(zYL q).length=3:=rfl
abbrev zdO (σ:zA6) (v:AV) (acc:List Cl):Prop:=zdM 189 5 zXW σ v acc
abbrev OutP (σ:zA6) (v:AV) (acc:List Pr):Prop:=zdM 137 3 zYL σ v acc
theorem zdP (P:Program) (σ:zA6) (l:List T) {n:Nat} (h:2*SizeOf.sizeOf l<n):deep P σ (n+1) (slV l)=some (slV l):=zP4 (m:=.any) (deep_tcellL P σ l n h)
theorem deep_clV (P:Program) (σ:zA6) (c:Cl) {n:Nat} (h:2*SizeOf.sizeOf c.head<n/\2*SizeOf.sizeOf c.guard<n/\2*SizeOf.sizeOf c.body<n):deep P σ (n+2) (clV c)=some (clV c):=by
 have e1:deep P σ (n+2) (clV c)=(([iZ c.mark,iZ c.vars,slV c.head,slV c.guard,slV c.body]:List AV).mapM (deep P σ (n+1))).map .agg:=rfl
 have i1:deep P σ (n+1) (iZ c.mark)=some (iZ c.mark):=rfl
 have i2:deep P σ (n+1) (iZ c.vars)=some (iZ c.vars):=rfl
 rw [e1]
 simp only [List.mapM_cons,List.mapM_nil,i1,i2,zdP P σ _ h.1,zdP P σ _ h.2.1,zdP P σ _ h.2.2,Option.bind_eq_bind,Option.bind_some,Option.pure_def,Option.map_some]
 rfl
noncomputable def szC (c:Cl):Nat:=2*SizeOf.sizeOf c.head+2*SizeOf.sizeOf c.guard+2*SizeOf.sizeOf c.body
noncomputable def szCs (l:List Cl):Nat:=(l.map szC).sum
theorem zdQ (P:Program) (σ:zA6):∀ (l:List Cl) {n:Nat},szCs l<n->(l.map clV).mapM (deep P σ (n+2))=some (l.map clV)
 | [],n,h=>rfl
 | c :: l,n,h=>by
  unfold szCs at h
  rw [List.map_cons,List.sum_cons] at h
  rw [List.map_cons,List.mapM_cons,deep_clV P σ c (n:=n) (by unfold szC at h; omega),zdQ P σ l (n:=n) (by unfold szCs; omega)]; rfl
theorem zdO.deep {σ:zA6} {v:AV} {acc:List Cl} (h:zdO σ v acc):∃ v',Go.V.deep Tryz.prog σ (szCs acc+4) v=some v'/\Wk v' (.slice 5 (acc.map clV) .any) :=
 zaI.deep (m:=szCs acc+3) zXW acc (fun _=>rfl) (by omega) (by kernel_rfl) (zdQ _ _ acc (n:=szCs acc+1) (by omega)) h
noncomputable def szPs (l:List Pr):Nat:=(l.map fun q=>szCs q.cls).sum
theorem zdR (P:Program) (σ:zA6):∀ (l:List Pr) {n:Nat},szPs l<n->(l.map prV).mapM (Go.V.deep P σ (n+4))=some (l.map prV)
 | [],n,h=>rfl
 | q :: l,n,h=>by
  unfold szPs at h
  rw [List.map_cons,List.sum_cons] at h
  have hq:Go.V.deep P σ (n+4) (prV q)=some (prV q):=by
   have e1:Go.V.deep P σ (n+4) (prV q)=(([.str q.name,iZ q.arity,.slice 5 (q.cls.map clV) .any]:List AV).mapM (Go.V.deep P σ (n+3))).map .agg:=rfl
   have i1:Go.V.deep P σ (n+3) (.str q.name)=some (.str q.name):=rfl
   have i2:Go.V.deep P σ (n+3) (iZ q.arity)=some (iZ q.arity):=rfl
   have i3:Go.V.deep P σ (n+3) (.slice 5 (q.cls.map clV) .any)=some (.slice 5 (q.cls.map clV) .any):=zP4 (m:=.any) (zdQ P σ q.cls (n:=n) (by omega))
   rw [e1]
   simp only [List.mapM_cons,List.mapM_nil,i1,i2,i3,Option.bind_eq_bind,Option.bind_some,Option.pure_def,Option.map_some]
   rfl
  rw [List.map_cons,List.mapM_cons,hq,zdR P σ l (n:=n) (by unfold szPs; omega)]; rfl
theorem OutP.deep {σ:zA6} {v:AV} {acc:List Pr} (h:OutP σ v acc):∃ v',Go.V.deep Tryz.prog σ (szPs acc+6) v=some v'/\Wk v' (.slice 3 (acc.map prV) .any) :=
 zaI.deep (m:=szPs acc+5) zYL acc (fun _=>rfl) (by omega) (by kernel_rfl) (zdR _ _ acc (n:=szPs acc+1) (by omega)) h
theorem rawAll:((List.range 9).all fun k=>(List.range k).all fun i=>zb3 (rawT k i)&&zb3 (rawE k i))=true:=by kernel_rfl
theorem zdS:zb3 raw0=true:=by kernel_rfl
theorem zb6.bulk {c:Cl} (h:zb6 c):zXV c:=⟨⟨by have:=h.h; omega,by have:=h.g; omega,by have:=h.b; omega⟩,fun x hx=>by have:=(h.t x hx).2; show x.bulk<=_; omega⟩
theorem zdT {k i:Nat} (hk:k<=8) (hi:i<k):zXV (rawT k i)/\zXV (rawE k i):=by
 have h1:=List.all_eq_true.1 rawAll k (List.mem_range.2 (by omega))
 have h2:=List.all_eq_true.1 h1 i (List.mem_range.2 hi)
 rw [Bool.and_eq_true] at h2
 exact ⟨(zb7 h2.1).bulk,(zb7 h2.2).bulk⟩
theorem zdU (k i:Nat):zdB k (i+1)=zdB k i++[zd2 (rawT k i)]:=by unfold zdB; rw [List.range_succ,List.map_append]; rfl
theorem zdV (k i:Nat):zdC k (i+1)=zdC k i++[zd2 (rawE k i)]:=by unfold zdC; rw [List.range_succ,List.map_append]; rfl
theorem zdW (k i:Nat):(zdB k i).length=i:=by unfold zdB; simp
theorem zdX (k i:Nat):(zdC k i).length=i:=by unfold zdC; simp
section
variable {B:Nat} {w0:World} {G:Nat->AV}
variable (hG:∀ i,zJV (G i))
include hG
theorem zdY:zJD (EV B w0 G) 79 C79w:=by
 rintro args σ Q ⟨l,m,rfl,hQ⟩
 refine zDV.argsW (ys:=[slV l]) ?_ (.cons (Wk.slice _ _ _) .nil)
 exact c79_ok hG _ _ _ ⟨l,rfl,hQ⟩
theorem zdZ:zIP (EV B w0 G) (H73 (EV B w0 G)):=zJJ (zKM B w0 G) (zJI (zZ6 hG) (zJI (c114_ok hG) (zJI (c113_ok hG) (zJI (c115_ok hG) (zJI (zdY hG) (zJI (c112_ok hG) (zJI (c77_ok hG) (zJI (c116_ok hG) zJH))))))))
theorem loop73a {k:Nat} (hk8:k<=8) {lp:Code} (hlp:lp = .loop (lB 73 0)) {Q:zDW} {a:zDN} {σ:zA6}
  (kk:T73a k (fun y=>y.i<=k/\zdO y.σ y.v (zdB k y.i)) (fun y=>zdO y.σ y.v (zdB k k)) lp Q a σ):AWp (EV B w0 G) none (zJ8 Tryz.prog 73) lp Q a σ:=by
 subst hlp
 obtain ⟨y0,hI0,hat,hR⟩:=kk
 refine zK5 (zdG k (fun y=>y.i<=k/\zdO y.σ y.v (zdB k y.i))) (x0:=y0) (fun y hI => ?_) (fun y hI e a' σ hne kk => ?_) hI0 hat
 ·obtain ⟨σy,v,i⟩:=y
  obtain ⟨hi,hO⟩:=hI
  change i<=k at hi
  change zdO σy v (zdB k i) at hO
  refine zP3 (zdZ hG) (zKM B w0 G) (by kernel_rfl) ((vc73a B w0 G k _ σy v i).mpr (zE2 (fun h => ?_) (fun h=>⟨fun h2 => ?_,rfl,rfl,rfl,rfl,rfl,rfl,rfl,.refl _⟩)))
  ·have h:(i:Int)<(k:Int):=of_decide_eq_true h
   have hk2:i<k:=by omega
   have hs:=zdU k i
   have hl:=zdW k i
   have hμ:k - (i+1)<k - i:=by omega
   have hb:=(zdT hk8 hk2).1
   have hn:=congrArg (fun z=>TV.v (iZ z)) (wI1 hk2 (by omega))
   refine ⟨(i:Int),rfl,?_⟩
   rcases hO.untok.untok.untok.untok.untok.untok.untok.untok.cases zdN with ⟨rfl,hx⟩ | ⟨id,cs,g,rfl,ho,hcl,hx⟩
   ·refine .inl ⟨rfl,vN k,vN i,rfl,?_⟩
    repeat' (first | exact rfl | refine And.intro rfl ?_ | refine And.intro (Or.inl ⟨rfl,rfl⟩) ?_ | fail)
    refine ⟨k,i,zYR (vN k) (vN i),vN (k+1),rfl,⟨by omega,by omega⟩,?_⟩
    repeat' (first | exact rfl | refine And.intro rfl ?_ | refine And.intro (Or.inl ⟨rfl,rfl⟩) ?_ | fail)
    refine ⟨vN k,vN (k+2),rfl,?_⟩
    repeat' (first | exact rfl | refine And.intro rfl ?_ | refine And.intro (Or.inl ⟨rfl,rfl⟩) ?_ | fail)
    refine ⟨vN (k+1),zYR (vN k) (vN (k+2)),rfl,?_⟩
    repeat' (first | exact rfl | refine And.intro rfl ?_ | refine And.intro (Or.inl ⟨rfl,rfl⟩) ?_ | fail)
    refine ⟨k,i,vN i,vN (k+2),rfl,⟨by omega,by omega⟩,?_⟩
    repeat' (first | exact rfl | refine And.intro rfl ?_ | refine And.intro (Or.inl ⟨rfl,rfl⟩) ?_ | fail)
    refine ⟨zc9 k i (vN i) (vN (k+2)),_,rfl,?_⟩
    repeat' (first | exact rfl | refine And.intro rfl ?_ | refine And.intro (Or.inl ⟨rfl,rfl⟩) ?_ | fail)
    refine ⟨zc9 k i (zYR (vN k) (vN i)) (vN (k+1)),[eqN (vN (k+1)) (zYR (vN k) (vN (k+2))),zYS (zc9 k i (vN i) (vN (k+2)))],_,_,_,_,rfl,⟨rfl,(zZ9 (eqN (vN (k+1)) (zYR (vN k) (vN (k+2)))) (zYS (zc9 k i (vN i) (vN (k+2))))).symm,hb⟩,?_⟩
    repeat' (first | exact rfl | refine And.intro rfl ?_ | refine And.intro (Or.inl ⟨rfl,rfl⟩) ?_ | fail)
    refine ⟨⟨by omega,by omega⟩,⟨_,.rslice σy.next 0 1,i+1⟩,⟨⟨hk2,by show zdO _ _ (zdB k (i+1)); rw [hs]; exact hx (zd2 (rawT k i))⟩,hμ⟩,rfl,rfl,rfl,rfl,rfl,rfl,hn,rfl,rfl,rfl,rfl,rfl,.refl _⟩
   ·generalize hm:(zdB k i).length=m at *
    refine .inr ⟨⟨id,m⟩,rfl,vN k,vN i,rfl,?_⟩
    repeat' (first | exact rfl | refine And.intro rfl ?_ | refine And.intro (Or.inr ⟨⟨id,m⟩,rfl,rfl⟩) ?_ | fail)
    refine ⟨k,i,zYR (vN k) (vN i),vN (k+1),rfl,⟨by omega,by omega⟩,?_⟩
    repeat' (first | exact rfl | refine And.intro rfl ?_ | refine And.intro (Or.inr ⟨⟨id,m⟩,rfl,rfl⟩) ?_ | fail)
    refine ⟨vN k,vN (k+2),rfl,?_⟩
    repeat' (first | exact rfl | refine And.intro rfl ?_ | refine And.intro (Or.inr ⟨⟨id,m⟩,rfl,rfl⟩) ?_ | fail)
    refine ⟨vN (k+1),zYR (vN k) (vN (k+2)),rfl,?_⟩
    repeat' (first | exact rfl | refine And.intro rfl ?_ | refine And.intro (Or.inr ⟨⟨id,m⟩,rfl,rfl⟩) ?_ | fail)
    refine ⟨k,i,vN i,vN (k+2),rfl,⟨by omega,by omega⟩,?_⟩
    repeat' (first | exact rfl | refine And.intro rfl ?_ | refine And.intro (Or.inr ⟨⟨id,m⟩,rfl,rfl⟩) ?_ | fail)
    refine ⟨zc9 k i (vN i) (vN (k+2)),_,rfl,?_⟩
    repeat' (first | exact rfl | refine And.intro rfl ?_ | refine And.intro (Or.inr ⟨⟨id,m⟩,rfl,rfl⟩) ?_ | fail)
    refine ⟨zc9 k i (zYR (vN k) (vN i)) (vN (k+1)),[eqN (vN (k+1)) (zYR (vN k) (vN (k+2))),zYS (zc9 k i (vN i) (vN (k+2)))],_,_,_,_,rfl,⟨rfl,(zZ9 (eqN (vN (k+1)) (zYR (vN k) (vN (k+2)))) (zYS (zc9 k i (vN i) (vN (k+2))))).symm,hb⟩,?_⟩
    repeat' (first | exact rfl | refine And.intro rfl ?_ | refine And.intro (Or.inr ⟨⟨id,m⟩,rfl,rfl⟩) ?_ | fail)
    refine ⟨⟨cs,g⟩,ho,⟨rfl,⟨by show (m+1)*88<=_; omega,by show m+1<=_; omega⟩,hcl⟩,⟨_,.rslice σy.next 0 (m+1),i+1⟩,⟨⟨hk2,by show zdO _ _ (zdB k (i+1)); rw [hs]; exact hx (zd2 (rawT k i))⟩,hμ⟩,rfl,rfl,rfl,rfl,rfl,rfl,hn,rfl,rfl,rfl,rfl,rfl,.refl _⟩
  ·have h:¬ (i:Int)<(k:Int):=of_decide_eq_false h
   have h2:i<k:=h2
   omega
 ·obtain ⟨σy,v,i⟩:=y
  obtain ⟨hi,hO⟩:=hI
  change i<=k at hi
  change zdO σy v (zdB k i) at hO
  cases e with
  | exit q =>
   match q,kk with
   | 0,kk =>
    obtain ⟨hk2,hat⟩:=kk
    have hk2:¬ i<k:=hk2
    rw [show i=k by omega] at hO
    exact ⟨_,_,(zJM hat).1,(zJM hat).2,hR ⟨σy,v,i⟩ hO⟩
  | normal=>exact absurd rfl hne
  | _=>exact kk.elim
theorem loop73b {k:Nat} (hk8:k<=8) {pre:List Cl} (hpre:pre.length<=100) {lp:Code} (hlp:lp = .loop (lB 73 1)) {Q:zDW} {a:zDN} {σ:zA6}
  (kk:T73b k (fun y=>y.i<=k/\zdO y.σ y.v (pre++zdC k y.i)) (fun σ v=>zdO σ v (pre++zdC k k)) lp Q a σ):AWp (EV B w0 G) none (zJ8 Tryz.prog 73) lp Q a σ:=by
 subst hlp
 obtain ⟨y0,hI0,hat,hR1,hR2⟩:=kk
 refine zK5 (zdJ k (fun y=>y.i<=k/\zdO y.σ y.v (pre++zdC k y.i))) (x0:=y0) (fun y hI => ?_) (fun y hI e a' σ hne kk => ?_) hI0 hat
 ·obtain ⟨σy,v,i⟩:=y
  obtain ⟨hi,hO⟩:=hI
  change i<=k at hi
  change zdO σy v (pre++zdC k i) at hO
  refine zP3 (zdZ hG) (zKM B w0 G) (by kernel_rfl) ((vc73b B w0 G k _ σy v i).mpr (zE2 (fun h => ?_) (fun h=>⟨fun h2 => ?_,rfl,rfl,rfl,rfl,rfl,rfl,rfl,.refl _⟩)))
  ·have h:(i:Int)<(k:Int):=of_decide_eq_true h
   have hk2:i<k:=by omega
   have hs:pre++zdC k (i+1)=(pre++zdC k i)++[zd2 (rawE k i)]:=by rw [zdV,List.append_assoc]
   have hl:(pre++zdC k i).length<=108:=by rw [List.length_append,zdX]; omega
   have hμ:k - (i+1)<k - i:=by omega
   have hb:=(zdT hk8 hk2).2
   have hn:=congrArg (fun z=>TV.v (iZ z)) (wI1 hk2 (by omega))
   rcases hO.untok.untok.untok.untok.untok.cases zdN with ⟨rfl,hx⟩ | ⟨id,cs,g,rfl,ho,hcl,hx⟩
   ·refine .inl ⟨rfl,_,rfl,?_⟩
    repeat' (first | exact rfl | refine And.intro rfl ?_ | refine And.intro (Or.inl ⟨rfl,rfl⟩) ?_ | fail)
    refine ⟨k,i,zYQ,vN (k+1),rfl,⟨by omega,by omega⟩,?_⟩
    repeat' (first | exact rfl | refine And.intro rfl ?_ | refine And.intro (Or.inl ⟨rfl,rfl⟩) ?_ | fail)
    refine ⟨k,i,vN (k+1),rfl,⟨by omega,by omega⟩,?_⟩
    repeat' (first | exact rfl | refine And.intro rfl ?_ | refine And.intro (Or.inl ⟨rfl,rfl⟩) ?_ | fail)
    refine ⟨zcA k i (vN (k+1)),_,rfl,?_⟩
    repeat' (first | exact rfl | refine And.intro rfl ?_ | refine And.intro (Or.inl ⟨rfl,rfl⟩) ?_ | fail)
    refine ⟨zc9 k i zYQ (vN (k+1)),[zYS (zcA k i (vN (k+1)))],_,_,_,_,rfl,⟨rfl,(zbE (zYS (zcA k i (vN (k+1))))).symm,hb⟩,?_⟩
    repeat' (first | exact rfl | refine And.intro rfl ?_ | refine And.intro (Or.inl ⟨rfl,rfl⟩) ?_ | fail)
    refine ⟨⟨by omega,by omega⟩,⟨_,.rslice σy.next 0 1,i+1⟩,⟨⟨hk2,by show zdO _ _ (pre++zdC k (i+1)); rw [hs]; exact hx (zd2 (rawE k i))⟩,hμ⟩,rfl,rfl,rfl,rfl,hn,rfl,rfl,rfl,.refl _⟩
   ·generalize hm:(pre++zdC k i).length=m at *
    refine .inr ⟨⟨id,m⟩,rfl,_,rfl,?_⟩
    repeat' (first | exact rfl | refine And.intro rfl ?_ | refine And.intro (Or.inr ⟨⟨id,m⟩,rfl,rfl⟩) ?_ | fail)
    refine ⟨k,i,zYQ,vN (k+1),rfl,⟨by omega,by omega⟩,?_⟩
    repeat' (first | exact rfl | refine And.intro rfl ?_ | refine And.intro (Or.inr ⟨⟨id,m⟩,rfl,rfl⟩) ?_ | fail)
    refine ⟨k,i,vN (k+1),rfl,⟨by omega,by omega⟩,?_⟩
    repeat' (first | exact rfl | refine And.intro rfl ?_ | refine And.intro (Or.inr ⟨⟨id,m⟩,rfl,rfl⟩) ?_ | fail)
    refine ⟨zcA k i (vN (k+1)),_,rfl,?_⟩
    repeat' (first | exact rfl | refine And.intro rfl ?_ | refine And.intro (Or.inr ⟨⟨id,m⟩,rfl,rfl⟩) ?_ | fail)
    refine ⟨zc9 k i zYQ (vN (k+1)),[zYS (zcA k i (vN (k+1)))],_,_,_,_,rfl,⟨rfl,(zbE (zYS (zcA k i (vN (k+1))))).symm,hb⟩,?_⟩
    repeat' (first | exact rfl | refine And.intro rfl ?_ | refine And.intro (Or.inr ⟨⟨id,m⟩,rfl,rfl⟩) ?_ | fail)
    refine ⟨⟨cs,g⟩,ho,⟨rfl,⟨by show (m+1)*88<=_; omega,by show m+1<=_; omega⟩,hcl⟩,⟨_,.rslice σy.next 0 (m+1),i+1⟩,⟨⟨hk2,by show zdO _ _ (pre++zdC k (i+1)); rw [hs]; exact hx (zd2 (rawE k i))⟩,hμ⟩,rfl,rfl,rfl,rfl,hn,rfl,rfl,rfl,.refl _⟩
  ·have h:¬ (i:Int)<(k:Int):=of_decide_eq_false h
   have h2:i<k:=h2
   omega
 ·obtain ⟨σy,v,i⟩:=y
  obtain ⟨hi,hO⟩:=hI
  change i<=k at hi
  change zdO σy v (pre++zdC k i) at hO
  cases e with
  | exit q =>
   match q,kk with
   | 2,kk =>
    obtain ⟨hk2,hat⟩:=kk
    have hk2:¬ i<k:=hk2
    rw [show i=k by omega] at hO
    rcases hO.cases zdN with ⟨rfl,_⟩ | ⟨id,cs,g,rfl,_⟩
    ·exact ⟨_,_,(zJM hat).1,(zJM hat).2,hR1 σy hO⟩
    ·exact ⟨_,_,(zJM hat).1,(zJM hat).2,hR2 σy _ _ hO⟩
  | normal=>exact absurd rfl hne
  | _=>exact kk.elim
end
end Go.V
