/- A part of the proof of the statement S8 (texts brought together and shortened by a program of this work). -/
import Derived.Test.YtgnjidopnplbbaaGreatDoorQ28
set_option maxRecDepth 1000000
set_option linter.unusedVariables false
namespace Go.V
open Go Go.Proofs
variable (B:Nat) (w0:World) (G:Nat->AV)
structure zVZ where
 σ:zA6
 i:Nat
def zW0 (p:List Pr):AV:=.slice 3 (p.map prV) .any
def clsV (l:List Cl):AV:=.slice 5 (l.map clV) .any
def zW1 (c:Cl):Prop:=c.head.length<=300000/\c.guard.length<=300000/\c.body.length<=300000
structure zW2 (p:List Pr):Prop where
 len:p.length<=1000000
 cls:∀ q∈p,q.cls.length<=1000000
 cl:∀ q∈p,∀ c∈q.cls,zW1 c
def C188:zJC:=fun args σ K=>∃ p:List Pr,args=[zSI p]/\(zW2 p/\∀ (mid:Nat) (σ':zA6),(zSE p=true->zUV mid (p.map Pr.sym) σ')->K (.tuple [.agg [.map mid,.nilmap],.bool (zSE p)]) σ')
def hPr:zIB:=zIB.as (fun q:Pr => .vptr [.str q.name,iZ q.arity,.slice 5 (q.cls.map clV) .any])
def hMapS:zIB:=zIB.of (fun es:List (AV×AV)=>zA5.map es)
def N188:zIE:=hAt [(6,1,hPr),(8,3,hLookN),(11,4,hMapS)]
def zW3 (mid:Nat) (p:List Pr) (I:zVZ->Prop):LS zVZ where
 F y:=[(2,.l 2 0),(4,.l 4 0),(18,.v (zW0 p)),(19,.v (iZ (p.length:Int))),(20,.v (iZ (y.i:Int)))]
 FL _:=[(2,[.nilmap,.nilmap]),(4,[.map mid,.nilmap])]
 S y:=y.σ
 I:=I
 μ y:=p.length - y.i
 Ex y e a σ:=match e with
  | .exit 0=>¬ (y.i<p.length)/\atF a [(2,.l 2 0),(4,.l 4 0)] [(2,[.nilmap,.nilmap]),(4,[.map mid,.nilmap])] (y.σ.Le σ)
  | .ret=>zSE p=false/\atF a [(2,.l 2 0),(3,.v (.bool false))] [(2,[.map mid,.nilmap])] True
  | _=>False
theorem zW4:zKE Tryz.prog [] 188=[.loop (lB 188 0)]:=by kernel_rfl
def H188 (E:Env):zDY:=hnd E zHI zMU [(212,C212),(213,C213)]
theorem vc188l (mid:Nat) (p:List Pr) (I:zVZ->Prop) (i:Nat) (σ:zA6):(wpX [] (EV B w0 G) (H188 (EV B w0 G)) nL (zHI 188) N188 (lB 188 0) ((zW3 mid p I).post ⟨σ,i⟩) (frm ((zW3 mid p I).F ⟨σ,i⟩) ((zW3 mid p I).FL ⟨σ,i⟩)) σ) =
 (bcase (decide ((zVZ.i (zVZ.mk σ i):Int)<(List.length p:Int)))
 (((0:Int)<=(zVZ.i (zVZ.mk σ i):Int)/\(zVZ.i (zVZ.mk σ i):Int)<(List.length (List.map prV p):Int))/\∃ x0:Pr,AV.vptr (AV.cells (List.getD (List.map prV p) (Int.toNat (↑(zVZ.i (zVZ.mk σ i)):Int)) AV.undef))=AV.vptr [AV.str (Pr.name x0),iZ (Pr.arity x0),AV.slice 5 (List.map clV (Pr.cls x0)) Cap.any]/\∃ a1:List (AV×AV),(zA6.objs σ mid)=zA5.map a1/\∃ a2:AV,zI9 Tryz.prog 225 a1 (AV.agg [AV.str (Pr.name x0),iZ (Pr.arity x0)]) true a2/\∃ x3:Nat×Bool,a2=AV.tuple [iZ ((Prod.fst x3:Nat):Int),AV.bool (Prod.snd x3)]/\bcase (Prod.snd x3)
 (zSE p=false/\Rf (TV.l 2 0)/\Rf (TV.v (AV.bool false))/\Rf [AV.map mid,AV.nilmap]/\True)
 (∃ s4:ByteArray,[AV.str (Pr.name x0)]=[AV.str s4]/\bcase (!(zMT s4))
 (zSE p=false/\Rf (TV.l 2 0)/\Rf (TV.v (AV.bool false))/\Rf [AV.map mid,AV.nilmap]/\True)
 (bcase (decide (((Pr.arity x0):Int)<0))
 (zSE p=false/\Rf (TV.l 2 0)/\Rf (TV.v (AV.bool false))/\Rf [AV.map mid,AV.nilmap]/\True)
 (bcase (decide (((Pr.arity x0):Int) > 16))
 (zSE p=false/\Rf (TV.l 2 0)/\Rf (TV.v (AV.bool false))/\Rf [AV.map mid,AV.nilmap]/\True)
 (∃ s5:ByteArray,∃ n6:Int,[AV.agg [AV.str (Pr.name x0),iZ (Pr.arity x0)]]=[AV.agg [AV.str s5,iZ n6]]/\bcase (resS s5 n6)
 (zSE p=false/\Rf (TV.l 2 0)/\Rf (TV.v (AV.bool false))/\Rf [AV.map mid,AV.nilmap]/\True)
 (bcase (decide ((List.length (List.map clV (Pr.cls x0)):Int) > 32))
 (zSE p=false/\Rf (TV.l 2 0)/\Rf (TV.v (AV.bool false))/\Rf [AV.map mid,AV.nilmap]/\True)
 (∃ a7:List (AV×AV),(zA6.objs (Ut (Ut σ)) mid)=zA5.map a7/\∃ a8:List (AV×AV),MSet Tryz.prog 225 a7 (AV.agg [AV.str (Pr.name x0),iZ (Pr.arity x0)]) (iZ (zVZ.i (zVZ.mk σ i):Int)) a8/\∃ x'9:zVZ,(I x'9/\LS.μ (zW3 mid p I) x'9<LS.μ (zW3 mid p I) (zVZ.mk σ i))/\Rf (TV.l 2 0)/\Rf (TV.l 4 0)/\Rf (TV.v (AV.slice 3 (List.map prV p) Cap.any))/\Rf (TV.v (iZ (List.length p:Int)))/\TV.v (iZ (IntKind.wrap .i64 ((zVZ.i (zVZ.mk σ i):Int)+1)))=TV.v (iZ (zVZ.i x'9:Int))/\Rf [AV.nilmap,AV.nilmap]/\Rf [AV.map mid,AV.nilmap]/\zA6.Le ((zW3 mid p I).3 x'9) (zA6.set (Ut (Ut σ)) mid (zA5.map a8)))))))))
 (((zVZ.i (zVZ.mk σ i)<List.length p)->False)/\Rf (TV.l 2 0)/\Rf (TV.l 4 0)/\Rf [AV.nilmap,AV.nilmap]/\Rf [AV.map mid,AV.nilmap]/\zA6.Le ((zVZ.mk σ i).1) σ)):=by kernel_rfl
def T188 (mid:Nat) (p:List Pr) (I R:zVZ->Prop):zFV:=fun _ Q a σ=>(∃ y:zVZ,I y/\atF a ((zW3 mid p I).F y) ((zW3 mid p I).FL y) (y.σ.Le σ))/\((∀ y':zVZ,R y'->Q (.exit 0) (frm [(2,.l 2 0),(4,.l 4 0)] [(2,[.nilmap,.nilmap]),(4,[.map mid,.nilmap])]) y'.σ)/\(zSE p=false->∀ σ':zA6,Q .ret (frm [(2,.l 2 0),(3,.v (.bool false))] [(2,[.map mid,.nilmap])]) σ'))
theorem vc188 (p:List Pr) (I R:zVZ->Prop) (σ:zA6) (Q:AV->zA6->Prop):(zKD [] (EV B w0 G) (H188 (EV B w0 G)) (T188 σ.next p I R) zHI N188 188 [zSI p] σ Q) =
 (bcase (decide ((List.length (List.map prV p):Int) > 64))
 (Q (AV.tuple [AV.agg [AV.map (zA6.next σ),AV.nilmap],AV.bool false]) (zA6.new σ (zA5.map [])))
 ((∃ y0:zVZ,I y0/\Rf (TV.l 2 0)/\Rf (TV.l 4 0)/\Rf (TV.v (AV.slice 3 (List.map prV p) Cap.any))/\TV.v (iZ (List.length (List.map prV p):Int))=TV.v (iZ (List.length p:Int))/\TV.v (iZ 0)=TV.v (iZ (zVZ.i y0:Int))/\Rf [AV.nilmap,AV.nilmap]/\Rf [AV.map (zA6.next σ),AV.nilmap]/\zA6.Le y0.1 (zA6.new σ (zA5.map [])))/\(∀ y'0:zVZ,((R y'0)->(Q (AV.tuple [AV.agg [AV.map (zA6.next σ),AV.nilmap],AV.bool true]) y'0.1)))/\((zSE p=false)->(∀ σ'0:zA6,Q (AV.tuple [AV.agg [AV.map (zA6.next σ),AV.nilmap],AV.bool false]) σ'0)))):=by kernel_rfl
end Go.V
namespace Go.V
open Go Go.Proofs
variable (B:Nat) (w0:World) (G:Nat->AV)
def zW5 (tab:List Sym) (n:Int) (c:Cl):Bool:=zSC c n&&(zSD c.body).all fun s=>zR9 tab s.1 s.2
def zW6 (tab:List Sym) (p:List Pr):Bool:=p.all fun q=>q.cls.all fun c=>zW5 tab q.arity c
structure zW7 where
 q:Pr
 i:Nat
def F189 (p:List Pr) (i:Nat):List (Nat×TV):=[(2,.l 2 0),(10,.v (zW0 p)),(11,.v (iZ (p.length:Int))),(12,.v (iZ (i:Int)))]
def zW8 (mid:Nat) (p:List Pr) (g:zW7) (I:zVZ->Prop) (Bad:zA6->Prop):LS zVZ where
 F y:=[(2,.l 2 0),(6,.l 6 0),(10,.v (zW0 p)),(11,.v (iZ (p.length:Int))),(12,.v (iZ (g.i:Int))),(17,.v (clsV g.q.cls)),(18,.v (iZ (g.q.cls.length:Int))),(19,.v (iZ (y.i:Int)))]
 FL _:=[(2,[.map mid,.nilmap]),(6,[.str g.q.name,iZ g.q.arity,clsV g.q.cls])]
 S y:=y.σ
 I:=I
 μ y:=g.q.cls.length - y.i
 Ex y e a σ:=match e with
  | .exit 2=>¬ (y.i<g.q.cls.length)/\atF a (F189 p g.i) [(2,[.map mid,.nilmap])] (y.σ.Le σ)
  | .ret=>∃ σ1,Bad σ1/\atF a [(4,.v (.bool false))] [] (σ1.Le σ)
  | _=>False
def zW9 (mid:Nat) (p:List Pr) (I:zVZ->Prop) (Bad:zA6->Prop):LS zVZ where
 F y:=F189 p y.i
 FL _:=[(2,[.map mid,.nilmap])]
 S y:=y.σ
 I:=I
 μ y:=p.length - y.i
 Ex y e a σ:=match e with
  | .exit 0=>¬ (y.i<p.length)/\atF a [] [] (y.σ.Le σ)
  | .ret=>∃ σ1,Bad σ1/\atF a [(4,.v (.bool false))] [] (σ1.Le σ)
  | _=>False
def hCl:zIB:=zIB.as (fun c:Cl => .vptr [iZ c.mark,iZ c.vars,.slice 4 (tcellL c.head) .any,.slice 4 (tcellL c.guard) .any,.slice 4 (tcellL c.body) .any])
def N189:zIE:=hAt [(3,0,hPr),(6,0,hCl)]
theorem zWA:zKE Tryz.prog [] 189=[.loop (lB 189 0)]:=by kernel_rfl
theorem parts189:zKB [] (lB 189 0)=[.loop (zKH (zKJ [] (zKG Tryz.prog [] 189 0) 0))]:=by kernel_rfl
def H189 (E:Env) (mid:Nat) (tab:List Sym):zDY:=hnd E zHI zMU [(214,C214),(167,C167 mid tab)]
theorem vc189i (mid:Nat) (tab:List Sym) (p:List Pr) (q:Pr) (ip:Nat) (I:zVZ->Prop) (Bad:zA6->Prop) (i:Nat) (σ:zA6):(wpX [] (EV B w0 G) (H189 (EV B w0 G) mid tab) nL (zHI 189) N189 (zKH (zKJ [] (zKG Tryz.prog [] 189 0) 0)) ((zW8 mid p ⟨q,ip⟩ I Bad).post ⟨σ,i⟩) (frm ((zW8 mid p ⟨q,ip⟩ I Bad).F ⟨σ,i⟩) ((zW8 mid p ⟨q,ip⟩ I Bad).FL ⟨σ,i⟩)) σ) =
 (bcase (decide ((zVZ.i (zVZ.mk σ i):Int)<(List.length (Pr.cls (zW7.q (zW7.mk q ip))):Int)))
 (((0:Int)<=(zVZ.i (zVZ.mk σ i):Int)/\(zVZ.i (zVZ.mk σ i):Int)<(List.length (List.map clV (Pr.cls (zW7.q (zW7.mk q ip)))):Int))/\∃ x0:Cl,AV.vptr (AV.cells (List.getD (List.map clV (Pr.cls (zW7.q (zW7.mk q ip)))) (Int.toNat (↑(zVZ.i (zVZ.mk σ i)):Int)) AV.undef))=AV.vptr [iZ (Cl.mark x0),iZ (Cl.vars x0),sT (Cl.head x0),sT (Cl.guard x0),sT (Cl.body x0)]/\∃ c1:Cl,∃ arity2:Int,[AV.agg [iZ (Cl.mark x0),iZ (Cl.vars x0),sT (Cl.head x0),sT (Cl.guard x0),sT (Cl.body x0)],iZ (Pr.arity (zW7.q (zW7.mk q ip)))]=[AV.agg [iZ (Cl.mark c1),iZ (Cl.vars c1),sT (Cl.head c1),sT (Cl.guard c1),sT (Cl.body c1)],iZ arity2]/\(List.length (Cl.head c1)<=300000/\List.length (Cl.guard c1)<=300000/\List.length (Cl.body c1)<=300000)/\bcase (!(zSC c1 arity2))
 (∃ σ13:zA6,Bad σ13/\Rf (TV.v (AV.bool false))/\zA6.Le σ13 (Ut σ))
 (∃ l3:List T,[AV.agg [AV.map mid,AV.nilmap],sT (Cl.body x0)]=[AV.agg [AV.map mid,AV.nilmap],sT l3]/\(List.length l3<=1000000/\zUV mid tab (Ut σ))/\(∀ σ'4:zA6,((zUV mid tab σ'4)->(bcase (!(List.all (zSD l3) fun s=>zR9 tab (Prod.fst s) (Prod.snd s)))
 (∃ σ15:zA6,Bad σ15/\Rf (TV.v (AV.bool false))/\zA6.Le σ15 σ'4)
 (∃ x'5:zVZ,(I x'5/\((LS.μ (zW8 mid p (zW7.mk q ip) I Bad) x'5):Nat)<LS.μ (zW8 mid p (zW7.mk q ip) I Bad) (zVZ.mk σ i))/\Rf (TV.l 2 0)/\Rf (TV.l 6 0)/\Rf (TV.v (AV.slice 3 (List.map prV p) Cap.any))/\Rf (TV.v (iZ (List.length p:Int)))/\Rf (TV.v (iZ (zW7.i (zW7.mk q ip):Int)))/\Rf (TV.v (AV.slice 5 (List.map clV (Pr.cls (zW7.q (zW7.mk q ip)))) Cap.any))/\Rf (TV.v (iZ (List.length (Pr.cls (zW7.q (zW7.mk q ip))):Int)))/\TV.v (iZ (IntKind.wrap .i64 ((zVZ.i (zVZ.mk σ i):Int)+1)))=TV.v (iZ (zVZ.i x'5:Int))/\Rf [AV.map mid,AV.nilmap]/\Rf [AV.str (Pr.name (zW7.q (zW7.mk q ip))),iZ (Pr.arity (zW7.q (zW7.mk q ip))),AV.slice 5 (List.map clV (Pr.cls (zW7.q (zW7.mk q ip)))) Cap.any]/\zA6.Le ((zW8 mid p (zW7.mk q ip) I Bad).3 x'5) σ'4))))))
 (((zVZ.i (zVZ.mk σ i)<List.length (Pr.cls (zW7.q (zW7.mk q ip))))->False)/\Rf (TV.l 2 0)/\Rf (TV.v (AV.slice 3 (List.map prV p) Cap.any))/\Rf (TV.v (iZ (List.length p:Int)))/\Rf (TV.v (iZ (zW7.i (zW7.mk q ip):Int)))/\Rf [AV.map mid,AV.nilmap]/\zA6.Le ((zVZ.mk σ i).1) σ)):=by kernel_rfl
def T189i (mid:Nat) (p:List Pr) (P R:zW7->zVZ->Prop) (Bad:zA6->Prop):zFV:=fun _ Q a σ=>∃ (g:zW7) (y:zVZ),P g y/\atF a ((zW8 mid p g (P g) Bad).F y) ((zW8 mid p g (P g) Bad).FL y) (y.σ.Le σ) /\
 ((∀ y':zVZ,R g y'->Q (.exit 2) (frm (F189 p g.i) [(2,[.map mid,.nilmap])]) y'.σ)/\(∀ σ1:zA6,Bad σ1->Q .ret (frm [(4,.v (.bool false))] []) σ1))
theorem vc189l (mid:Nat) (p:List Pr) (P R:zW7->zVZ->Prop) (I:zVZ->Prop) (Bad:zA6->Prop) (i:Nat) (σ:zA6):(wpX [] (EV B w0 G) (H0 (EV B w0 G)) (T189i mid p P R Bad) (zHI 189) N189 (lB 189 0) ((zW9 mid p I Bad).post ⟨σ,i⟩) (frm (F189 p i) [(2,[.map mid,.nilmap])]) σ) =
 (bcase (decide ((i:Int)<(List.length p:Int)))
 (((0:Int)<=(i:Int)/\(i:Int)<(List.length (List.map prV p):Int))/\∃ x0:Pr,AV.vptr (AV.cells (List.getD (List.map prV p) (Int.toNat (↑i:Int)) AV.undef))=AV.vptr [AV.str (Pr.name x0),iZ (Pr.arity x0),AV.slice 5 (List.map clV (Pr.cls x0)) Cap.any]/\∃ g1:zW7,∃ y2:zVZ,P g1 y2/\(Rf (TV.l 2 0)/\Rf (TV.l 6 0)/\Rf (TV.v (AV.slice 3 (List.map prV p) Cap.any))/\Rf (TV.v (iZ (List.length p:Int)))/\TV.v (iZ (i:Int))=TV.v (iZ (zW7.i g1:Int))/\TV.v (AV.slice 5 (List.map clV (Pr.cls x0)) Cap.any)=TV.v (AV.slice 5 (List.map clV (Pr.cls (zW7.q g1))) Cap.any)/\TV.v (iZ (List.length (List.map clV (Pr.cls x0)):Int))=TV.v (iZ (List.length (Pr.cls (zW7.q g1)):Int))/\TV.v (iZ 0)=TV.v (iZ (zVZ.i y2:Int))/\Rf [AV.map mid,AV.nilmap]/\[AV.str (Pr.name x0),iZ (Pr.arity x0),AV.slice 5 (List.map clV (Pr.cls x0)) Cap.any]=[AV.str (Pr.name (zW7.q g1)),iZ (Pr.arity (zW7.q g1)),AV.slice 5 (List.map clV (Pr.cls (zW7.q g1))) Cap.any]/\zA6.Le y2.1 σ)/\(∀ y'3:zVZ,((R g1 y'3)->(∃ x'4:zVZ,(I x'4/\LS.μ (zW9 mid p I Bad) x'4<LS.μ (zW9 mid p I Bad) (zVZ.mk σ i))/\Rf (TV.l 2 0)/\Rf (TV.v (AV.slice 3 (List.map prV p) Cap.any))/\Rf (TV.v (iZ (List.length p:Int)))/\TV.v (iZ (IntKind.wrap .i64 ((zW7.i g1:Int)+1)))=TV.v (iZ (zVZ.i x'4:Int))/\Rf [AV.map mid,AV.nilmap]/\zA6.Le ((zW9 mid p I Bad).3 x'4) y'3.1)))/\(∀ σ13:zA6,((Bad σ13)->(∃ σ14:zA6,Bad σ14/\Rf (TV.v (AV.bool false))/\zA6.Le σ14 σ13))))
 (((zVZ.i (zVZ.mk σ i)<List.length p)->False)/\zA6.Le ((zVZ.mk σ i).1) σ)):=by kernel_rfl
def T189 (mid:Nat) (p:List Pr) (I R:zVZ->Prop) (Bad:zA6->Prop):zFV:=fun _ Q a σ=>∃ y:zVZ,I y/\atF a ((zW9 mid p I Bad).F y) ((zW9 mid p I Bad).FL y) (y.σ.Le σ) /\
 ((∀ y':zVZ,R y'->Q (.exit 0) (frm [] []) y'.σ)/\(∀ σ1:zA6,Bad σ1->Q .ret (frm [(4,.v (.bool false))] []) σ1))
theorem vc189 (mid:Nat) (p:List Pr) (I R:zVZ->Prop) (Bad:zA6->Prop) (σ:zA6) (Q:AV->zA6->Prop):(zKD [] (EV B w0 G) (H0 (EV B w0 G)) (T189 mid p I R Bad) zHI N189 189 [.agg [.map mid,.nilmap],zSI p] σ Q) =
 (∃ y0:zVZ,I y0/\(Rf (TV.l 2 0)/\Rf (TV.v (AV.slice 3 (List.map prV p) Cap.any))/\TV.v (iZ (List.length (List.map prV p):Int))=TV.v (iZ (List.length p:Int))/\TV.v (iZ 0)=TV.v (iZ (zVZ.i y0:Int))/\Rf [AV.map mid,AV.nilmap]/\zA6.Le y0.1 σ)/\(∀ y'1:zVZ,((R y'1)->(Q (AV.bool true) y'1.1)))/\(∀ σ11:zA6,((Bad σ11)->(Q (AV.bool false) σ11)))):=by kernel_rfl
def C189x:zJC:=fun args σ K=>∃ (mid:Nat) (tab:List Sym) (p:List Pr),args=[.agg [.map mid,.nilmap],zSI p]/\((zW2 p/\zUV mid tab σ)/\∀ σ':zA6,zUV mid tab σ'->K (.bool (zW6 tab p)) σ')
def C165:zJC:=fun args σ K=>∃ p:List Pr,args=[zSI p]/\(zW2 p/\((zSF p=true->∀ (mid:Nat) (σ':zA6),zUV mid (p.map Pr.sym) σ'->K (.tuple [.agg [zW0 p,.map mid,.nilmap],iZ 0]) σ')/\(zSF p=false->∀ σ':zA6,K (.tuple [.agg [.nilslice,.nilmap,.nilmap],iZ 5]) σ')))
theorem vc165 (p:List Pr) (σ:zA6) (Q:AV->zA6->Prop):(zKD [] (EV B w0 G) (hnd (EV B w0 G) zHI zMU [(188,C188),(189,C189x)]) nL zHI zMV 165 [zSI p] σ Q) =
 (∃ p0:List Pr,[AV.agg [AV.slice 3 (List.map prV p) Cap.any]]=[AV.agg [AV.slice 3 (List.map prV p0) Cap.any]]/\zW2 p0/\(∀ mid1:Nat,(∀ σ'2:zA6,(((zSE p0=true)->(zUV mid1 (List.map Pr.sym p0) σ'2))->(bcase (!(zSE p0))
 (Q (AV.tuple [AV.agg [AV.nilslice,AV.nilmap,AV.nilmap],iZ 5]) σ'2)
 (∃ mid3:Nat,∃ tab4:List Sym,∃ p5:List Pr,[AV.agg [AV.map mid1,AV.nilmap],AV.agg [AV.slice 3 (List.map prV p) Cap.any]]=[AV.agg [AV.map mid3,AV.nilmap],AV.agg [AV.slice 3 (List.map prV p5) Cap.any]]/\(zW2 p5/\zUV mid3 tab4 σ'2)/\(∀ σ'6:zA6,((zUV mid3 tab4 σ'6)->(bcase (!(zW6 tab4 p5))
 (Q (AV.tuple [AV.agg [AV.nilslice,AV.nilmap,AV.nilmap],iZ 5]) σ'6)
 (Q (AV.tuple [AV.agg [AV.slice 3 (List.map prV p) Cap.any,AV.map mid1,AV.nilmap],iZ 0]) σ'6)))))))))):=by kernel_rfl
def C166:zJC:=fun args σ K=>∃ q:Qu,args=[quV q]/\(q.goals.length<=300000/\K (.bool (zSG q)) σ.untok)
theorem vc166 (q:Qu) (Q:AV->zA6->Prop):(zKD [] (EV B w0 G) (hnd (EV B w0 G) zHI zMU [(106,C106),(190,C190),(191,C191),(192,C192 193 zS9 (fun _=>True))]) nL zHI zMV 166 [quV q] zJZ Q) =
 (bcase (decide ((List.length (tcellL (Qu.goals q)):Int)<=16))
 (∃ l0:List T,[sT (Qu.goals q)]=[sT l0]/\List.length l0<=1000000/\bcase (((if zS5 l0=Bool.true then 0 else 3):Int)==0)
 (∃ l1:List T,[sT (Qu.goals q)]=[sT l1]/\(List.length l1<=1000000/\(∀ x2:T,((x2∈l1)->(((zND x2):Int)=0))))/\bcase (decide ((sizeL l1:Int)<=400))
 (bcase (decide (((Qu.vars q):Int)<=64))
 (∃ l2:List T,∃ vars3:Int,[sT (Qu.goals q),iZ (Qu.vars q)]=[sT l2,iZ vars3]/\(zS5 l2=true/\List.length l2<=1000000)/\bcase (zS8 l2 vars3)
 (∃ l4:List T,[sT (Qu.goals q),AV.func (Go.Fn.func 193) [] []]=[sT l4,AV.func (Go.Fn.func 193) [] []]/\(List.length l4<=1000000/\(∀ x5:T,((x5∈l4)->True)))/\Q (AV.bool (!(List.any l4 zS9))) (Ut (Ut (Ut (Ut zJZ)))))
 (Q (AV.bool false) (Ut (Ut (Ut zJZ)))))
 (Q (AV.bool false) (Ut (Ut zJZ))))
 (Q (AV.bool false) (Ut (Ut zJZ))))
 (Q (AV.bool false) (Ut zJZ)))
 (Q (AV.bool false) zJZ)):=by kernel_rfl
def C167x:zJC:=fun args σ K=>∃ (mid:Nat) (tab:List Sym) (l:List T),args=[.agg [.map mid,.nilmap],slV l]/\((l.length<=1000000/\zUV mid tab σ)/\∀ σ':zA6,zUV mid tab σ'->K (.bool ((zSD l).all fun s=>zR9 tab s.1 s.2)) σ')
def C137:zJC:=fun args σ K=>∃ (p:List Pr) (q:Qu),args=[zSI p,quV q]/\((zW2 p/\q.goals.length<=300000)/\((∀ (mid:Nat) (σ':zA6),K (.tuple [.agg [zW0 p,.map mid,.nilmap],iZ (if zSH p q=true then 0 else 5)]) σ')/\(∀ σ':zA6,K (.tuple [.agg [.nilslice,.nilmap,.nilmap],iZ (if zSH p q=true then 0 else 5)]) σ')))
def N137:zIE:=zMV
theorem vc137 (p:List Pr) (q:Qu) (σ:zA6) (Q:AV->zA6->Prop):(zKD [] (EV B w0 G) (hnd (EV B w0 G) zHI zMU [(165,C165),(166,C166),(167,C167x)]) nL zHI N137 137 [zSI p,quV q] σ Q) =
 (∃ p0:List Pr,[AV.agg [AV.slice 3 (List.map prV p) Cap.any]]=[AV.agg [AV.slice 3 (List.map prV p0) Cap.any]]/\zW2 p0/\((zSF p0=true)->(∀ mid1:Nat,(∀ σ'2:zA6,((zUV mid1 (List.map Pr.sym p0) σ'2)->(∃ q3:Qu,[AV.agg [iZ (Qu.vars q),sT (Qu.goals q)]]=[AV.agg [iZ (Qu.vars q3),sT (Qu.goals q3)]]/\List.length (Qu.goals q3)<=300000/\bcase (!(zSG q3))
 (Q (AV.tuple [AV.agg [AV.slice 3 (List.map prV p0) Cap.any,AV.map mid1,AV.nilmap],iZ 5]) (Ut σ'2))
 (∃ mid4:Nat,∃ tab5:List Sym,∃ l6:List T,[AV.agg [AV.map mid1,AV.nilmap],sT (Qu.goals q)]=[AV.agg [AV.map mid4,AV.nilmap],sT l6]/\(List.length l6<=1000000/\zUV mid4 tab5 (Ut σ'2))/\(∀ σ'7:zA6,((zUV mid4 tab5 σ'7)->(bcase (!(List.all (zSD l6) fun s=>zR9 tab5 (Prod.fst s) (Prod.snd s)))
 (Q (AV.tuple [AV.agg [AV.slice 3 (List.map prV p0) Cap.any,AV.map mid1,AV.nilmap],iZ 5]) σ'7)
 (Q (AV.tuple [AV.agg [AV.slice 3 (List.map prV p0) Cap.any,AV.map mid1,AV.nilmap],iZ 0]) σ'7))))))))))/\((zSF p0=false)->(∀ σ'1:zA6,Q (AV.tuple [AV.agg [AV.nilslice,AV.nilmap,AV.nilmap],iZ 5]) σ'1))):=by kernel_rfl
def C121:zJC:=fun args σ K=>∃ (p:List Pr) (q:Qu),args=[zSI p,quV q]/\((zW2 p/\q.goals.length<=300000)/\K (iZ (if zSH p q=true then 0 else 5)) σ.untok)
theorem vc121 (p:List Pr) (q:Qu) (Q:AV->zA6->Prop):(zKD [] (EV B w0 G) (hnd (EV B w0 G) zHI zMU [(137,C137)]) nL zHI zMV 121 [zSI p,quV q] zJZ Q) =
 (∃ p0:List Pr,∃ q1:Qu,[AV.agg [AV.slice 3 (List.map prV p) Cap.any],AV.agg [iZ (Qu.vars q),sT (Qu.goals q)]]=[AV.agg [AV.slice 3 (List.map prV p0) Cap.any],AV.agg [iZ (Qu.vars q1),sT (Qu.goals q1)]]/\(zW2 p0/\List.length (Qu.goals q1)<=300000)/\(∀ mid2:Nat,(∀ σ'3:zA6,Q (iZ (if zSH p0 q1=Bool.true then 0 else 5)) σ'3))/\(∀ σ'2:zA6,Q (iZ (if zSH p0 q1=Bool.true then 0 else 5)) σ'2)):=by kernel_rfl
end Go.V
set_option linter.unusedSimpArgs false
set_option linter.unusedSectionVars false
namespace Go.V
open Go Go.Proofs

def okP (q:Pr):Bool:=zMT q.name&&decide (0<=q.arity)&&decide (q.arity<=16) && !resS q.name q.arity&&decide (q.cls.length<=32)
theorem zWB {p:List Pr}:zSE p=true↔p.length<=64/\(p.map Pr.sym).Nodup/\∀ q∈p,okP q=true:=by
 unfold zSE
 rw [Bool.and_eq_true,Bool.and_eq_true,decide_eq_true_eq,decide_eq_true_eq,List.all_eq_true]; rfl
theorem zWC {p:List Pr} {i:Nat} (h:zSE (p.take i)=false):zSE p=false:=by
 cases e:zSE p with
 | false=>rfl
 | true =>
  obtain ⟨h1,h2,h3⟩:=zWB.1 e
  have:zSE (p.take i)=true:=by
   refine zWB.2 ⟨by rw [List.length_take]; omega,?_,fun q hq=>h3 q (List.mem_of_mem_take hq)⟩
   rw [List.map_take]
   exact h2.sublist (List.take_sublist _ _)
  rw [this] at h; cases h
theorem zWD {p:List Pr} {i:Nat} (hi:i<p.length) (h:zSE (p.take i)=true) (hl:p.length<=64):zSE (p.take (i+1))=(!zR9 ((p.take i).map Pr.sym) p[i].name p[i].arity&&okP p[i]):=by
 obtain ⟨h1,h2,h3⟩:=zWB.1 h
 have e:p.take (i+1)=p.take i++[p[i]]:=List.take_succ_eq_append_getElem hi
 have hs:zR9 ((p.take i).map Pr.sym) p[i].name p[i].arity=true↔p[i].sym∈(p.take i).map Pr.sym:=zVG (s:=p[i].sym)
 cases ho:okP p[i] with
 | false =>
  rw [Bool.and_false]
  cases e2:zSE (p.take (i+1)) with
  | false=>rfl
  | true =>
   have:=(zWB.1 e2).2.2 p[i] (by rw [e]; exact List.mem_append.2 (.inr (List.mem_singleton.2 rfl)))
   rw [ho] at this; cases this
 | true =>
  rw [Bool.and_true]
  cases hm:zR9 ((p.take i).map Pr.sym) p[i].name p[i].arity with
  | true =>
   cases e2:zSE (p.take (i+1)) with
   | false=>rfl
   | true =>
    have hn:=(zWB.1 e2).2.1
    rw [e,List.map_append,List.nodup_append] at hn
    exact absurd rfl (hn.2.2 _ (hs.1 hm) _ (by simp))
  | false =>
   have hn:p[i].sym∉(p.take i).map Pr.sym:=fun h=>by rw [hs.2 h] at hm; cases hm
   refine zWB.2 ⟨by rw [List.length_take]; omega,?_,fun q hq => ?_⟩
   ·rw [e,List.map_append,List.nodup_append]
    refine ⟨h2,by simp,fun a ha b hb hab => ?_⟩
    simp only [List.map_cons,List.map_nil,List.mem_cons,List.not_mem_nil,or_false] at hb
    exact hn (by rw [<-hb,<-hab]; exact ha)
   ·rw [e,List.mem_append] at hq
    rcases hq with hq | hq
    ·exact h3 q hq
    ·simp only [List.mem_cons,List.not_mem_nil,or_false] at hq
     rw [hq]; exact ho
theorem zWE (tab:List Sym) (s:ByteArray) (n:Int):zUU (tab++[(s,n)])=zUU tab++[(zRJ s n,iZ (tab.length:Int))]:=by
 unfold zUU
 rw [List.zipIdx_append,List.map_append]
 simp
theorem mset_tab {tab:List Sym} {s:ByteArray} {n:Int} {i:Nat} (hl:tab.length=i) (h:zR9 tab s n=false):MSet Tryz.prog 225 (zUU tab) (zRJ s n) (iZ (i:Int)) (zUU (tab++[(s,n)])):=by
 subst hl
 obtain ⟨r,hr,h1⟩:=zVD s n tab.zipIdx 0
 rw [zVE,h] at h1
 have e0:zAX Tryz.prog 240 (zRJ s n)=true:=by kernel_rfl
 have e1:zAY Tryz.prog 225=some (240,3):=by kernel_rfl
 obtain rfl:r=none:=h1.elim (fun h=>absurd h.1 (by simp)) (fun h=>h.2)
 rw [zWE]
 unfold MSet mset
 rw [e1]
 dsimp only
 rw [if_pos e0]
 unfold zUU
 rw [hr]; rfl
theorem zWF {p:List Pr} {i:Nat} (h:i<p.length):AV.vptr (AV.cells (List.getD (p.map prV) i AV.undef)) = .vptr [.str p[i].name,iZ p[i].arity,.slice 5 (p[i].cls.map clV) .any]:=by
 rw [List.getD_eq_getElem?_getD,List.getElem?_eq_getElem (by rw [List.length_map]; exact h),List.getElem_map]; rfl
theorem zWG {l:List Cl} {i:Nat} (h:i<l.length):AV.vptr (AV.cells (List.getD (l.map clV) i AV.undef)) = .vptr [iZ l[i].mark,iZ l[i].vars,.slice 4 (tcellL l[i].head) .any,.slice 4 (tcellL l[i].guard) .any,.slice 4 (tcellL l[i].body) .any]:=by
 rw [List.getD_eq_getElem?_getD,List.getElem?_eq_getElem (by rw [List.length_map]; exact h),List.getElem_map]; rfl
theorem zUV.set {mid:Nat} {tab tab':List Sym} {σ:zA6} (h:zUV mid tab σ):zUV mid tab' (σ.set mid (.map (zUU tab'))):=⟨h.lt,by
 show (if mid=mid then _ else _)=_
 rw [if_pos rfl]⟩

section
variable {B:Nat} {w0:World} {G:Nat->AV}
variable (hG:∀ i,zJV (G i))
include hG
theorem c188_ok:zJD (EV B w0 G) 188 C188:=by
 rintro args σ Q ⟨p,rfl,hp,hQ⟩
 have hlen:=hp.len
 have hH:zIP (EV B w0 G) (H188 (EV B w0 G)):=zJJ (zKM B w0 G) (zJI (c212_ok hG) (zJI (c213_ok hG) zJH))
 let mid:=σ.next
 let I:zVZ->Prop:=fun y=>p.length<=64/\y.i<=p.length/\zSE (p.take y.i)=true/\zUV mid ((p.take y.i).map Pr.sym) y.σ
 let R:zVZ->Prop:=fun y=>zSE p=true/\zUV mid (p.map Pr.sym) y.σ
 refine zKF (cuts:=[]) (zKM B w0 G) hH (fun lp hl _ Q a' σ kk => ?_) ((vc188 B w0 G p I R σ Q).mpr (zE2 (fun h => ?_) (fun h=>⟨⟨⟨σ.new (.map []),0⟩,⟨?_,Nat.zero_le _,?_,⟨Nat.lt_succ_self _,zA6.new_objs _ _⟩⟩,rfl,rfl,rfl,by rw [List.length_map],rfl,rfl,rfl,.refl _⟩,fun y' hy => ?_,fun h σ' => ?_⟩)))
 ·change lp∈zKE Tryz.prog [] 188 at hl
  rw [zW4] at hl
  simp only [List.mem_cons,List.not_mem_nil,or_false] at hl
  subst hl
  obtain ⟨⟨y0,hI0,hat⟩,hR1,hR2⟩:=kk
  refine zK5 (zW3 mid p I) (x0:=y0) (fun y hI => ?_) (fun y hI e a' σ hne kk => ?_) hI0 hat
  ·obtain ⟨σy,i⟩:=y
   obtain ⟨hl,hi,ht,hm⟩:=hI
   change i<=p.length at hi
   change zSE (p.take i)=true at ht
   change zUV mid ((p.take i).map Pr.sym) σy at hm
   refine zP3 hH (zKM B w0 G) (by kernel_rfl) ((vc188l B w0 G mid p I i σy).mpr (zE2 (fun h => ?_) (fun h=>⟨fun h2 => ?_,rfl,rfl,rfl,rfl,.refl _⟩)))
   ·have h:(i:Int)<(p.length:Int):=of_decide_eq_true h
    have hi2:i<p.length:=by omega
    have hst:=zWD hi2 ht hl
    have hsl:((p.take i).map Pr.sym).length=i:=by rw [List.length_map,List.length_take]; omega
    have no:(!zR9 ((p.take i).map Pr.sym) p[i].name p[i].arity&&okP p[i])=false->zSE p=false:=fun h=>zWC (i:=i+1) (by rw [hst]; exact h)
    unfold okP at no hst
    obtain ⟨j,hj⟩:=zVF ((p.take i).map Pr.sym) p[i].name p[i].arity
    refine ⟨⟨by show (0:Int)<=(i:Int); omega,by rw [List.length_map]; exact h⟩,p[i],?_,_,hm.obj,_,hj,(j,zR9 ((p.take i).map Pr.sym) p[i].name p[i].arity),rfl,zE2 (fun h1=>⟨no ?_,rfl,rfl,rfl,trivial⟩) (fun h1=>⟨_,rfl,zE2 (fun h2=>⟨no ?_,rfl,rfl,rfl,trivial⟩) (fun h2=>zE2 (fun h3=>⟨no ?_,rfl,rfl,rfl,trivial⟩) (fun h3=>zE2 (fun h4=>⟨no ?_,rfl,rfl,rfl,trivial⟩) (fun h4=>⟨_,_,rfl,zE2 (fun h5=>⟨no ?_,rfl,rfl,rfl,trivial⟩) (fun h5=>zE2 (fun h6=>⟨no ?_,rfl,rfl,rfl,trivial⟩) (fun h6 =>
     ⟨_,zV9 (zV9 hm.obj),_,mset_tab (i:=i) (s:=p[i].name) (n:=p[i].arity) hsl ?_,⟨_,i+1⟩,⟨⟨hl,hi2,?_,?_⟩,?_⟩,rfl,rfl,rfl,rfl,?_,rfl,rfl,.refl _⟩))⟩)))⟩)⟩
    ·show AV.vptr (AV.cells (List.getD (p.map prV) (Int.toNat (i:Int)) AV.undef))=_
     rw [Int.toNat_natCast]; exact zWF hi2
    ·have h1:zR9 ((p.take i).map Pr.sym) p[i].name p[i].arity=true:=h1
     rw [h1]; rfl
    all_goals
     have h1:zR9 ((p.take i).map Pr.sym) p[i].name p[i].arity=false:=h1
    ·rw [show zMT p[i].name=false by simpa using h2]; simp
    ·rw [decide_eq_false (show ¬ 0<=p[i].arity by have:=of_decide_eq_true h3; omega)]; simp
    ·rw [decide_eq_false (show ¬ p[i].arity<=16 by have:=of_decide_eq_true h4; omega)]; simp
    ·rw [h5]; simp
    ·rw [List.length_map] at h6
     rw [decide_eq_false (show ¬ p[i].cls.length<=32 by have:=of_decide_eq_true h6; omega)]; simp
    ·exact h1
    ·have h2:zMT p[i].name=true:=by simpa using h2
     have h3:=of_decide_eq_false h3
     have h4:=of_decide_eq_false h4
     rw [List.length_map] at h6
     have h6:=of_decide_eq_false h6
     show zSE (p.take (i+1))=true
     rw [hst,h1,h2,h5,decide_eq_true (show 0<=p[i].arity by omega),decide_eq_true (show p[i].arity<=16 by omega),decide_eq_true (show p[i].cls.length<=32 by omega)]; rfl
    ·show zUV mid ((p.take (i+1)).map Pr.sym) _
     have e:(p.take (i+1)).map Pr.sym=(p.take i).map Pr.sym++[(p[i].name,p[i].arity)]:=by
      rw [List.take_succ_eq_append_getElem hi2,List.map_append]; rfl
     rw [e]
     exact hm.untok.untok.set
    ·show p.length - (i+1)<p.length - i
     omega
    ·exact congrArg (fun z=>TV.v (iZ z)) (by rw [show ((i:Int)+1)=((i+1:Nat):Int) by omega,zN8 (by omega) (by omega)])
   ·have h:¬ (i:Int)<(p.length:Int):=of_decide_eq_false h
    have h2:i<p.length:=h2
    omega
  ·obtain ⟨σy,i⟩:=y
   obtain ⟨hl,hi,ht,hm⟩:=hI
   change i<=p.length at hi
   change zSE (p.take i)=true at ht
   change zUV mid ((p.take i).map Pr.sym) σy at hm
   cases e with
   | exit j =>
    match j,kk with
    | 0,kk =>
     obtain ⟨hk,hat⟩:=kk
     have hk:¬ i<p.length:=hk
     rw [show i=p.length by omega,List.take_length] at ht hm
     exact ⟨_,_,(zJM hat).1,(zJM hat).2,hR1 ⟨σy,i⟩ ⟨ht,hm⟩⟩
   | ret=>exact ⟨_,_,(zJM kk.2).1,.refl _,hR2 kk.1 _⟩
   | normal=>exact absurd rfl hne
   | _=>exact kk.elim
 ·rw [List.length_map] at h
  have ht:zSE p=false:=by
   cases e:zSE p with
   | false=>rfl
   | true=>have:=(zWB.1 e).1; have:=of_decide_eq_true h; omega
  rw [ht] at hQ
  exact hQ _ _ (fun h=>by cases h)
 ·rw [List.length_map] at h
  have h:=of_decide_eq_false h
  omega
 ·rfl
 ·rw [hy.1] at hQ
  exact hQ _ _ fun _=>hy.2
 ·rw [h] at hQ
  exact hQ _ _ (fun h=>by cases h)
end
end Go.V
namespace Go.V
open Go Go.Proofs

theorem zWH {α:Type} {P:α->Bool} {l:List α} {i:Nat} (h:i<l.length):(l.take (i+1)).all P=((l.take i).all P&&P l[i]):=by
 rw [List.take_succ_eq_append_getElem h,List.all_append]; simp
theorem zWI {α:Type} {P:α->Bool} {l:List α} {i:Nat} (h:i<l.length) (hp:P l[i]=false):l.all P=false:=by
 rw [List.all_eq_false]
 exact ⟨l[i],List.getElem_mem h,by rw [hp]; simp⟩
theorem zWJ (p:List Pr):zSF p=(zSE p&&zW6 (p.map Pr.sym) p):=rfl
theorem zWK (p:List Pr) (q:Qu):zSH p q=(zSF p&&(zSG q&&(zSD q.goals).all fun s=>zR9 (p.map Pr.sym) s.1 s.2)):=rfl
theorem zWL (l:List Cl):zJV (.slice 5 (l.map clV) .any):=.slice (by simp) fun x hx=>by
 have hf:∀ (l:List Cl),∀ x∈zA0 (l.map clV),zJV x:=fun l=>by
  induction l with
  | nil=>intro x hx; cases hx
  | cons z l ih =>
   intro x hx
   rw [List.map_cons,zC3,List.mem_append] at hx
   rcases hx with hx | hx
   ·change x∈([iZ z.mark,iZ z.vars,.slice 4 (tcellL z.head) .any,.slice 4 (tcellL z.guard) .any,.slice 4 (tcellL z.body) .any]:List AV) at hx
    simp only [List.mem_cons,List.not_mem_nil,or_false] at hx
    rcases hx with rfl | rfl | rfl | rfl | rfl
    ·exact .int _ _
    ·exact .int _ _
    ·exact zQI _
    ·exact zQI _
    ·exact zQI _
   ·exact ih x hx
 exact hf _ x hx
theorem zWM (p:List Pr):zJV (zW0 p):=.slice (by simp) fun x hx=>by
 have hf:∀ (p:List Pr),∀ x∈zA0 (p.map prV),zJV x:=fun p=>by
  induction p with
  | nil=>intro x hx; cases hx
  | cons y l ih =>
   intro x hx
   rw [List.map_cons,zC3,List.mem_append] at hx
   rcases hx with hx | hx
   ·change x∈([.str y.name,iZ y.arity,.slice 5 (y.cls.map clV) .any]:List AV) at hx
    simp only [List.mem_cons,List.not_mem_nil,or_false] at hx
    rcases hx with rfl | rfl | rfl
    ·exact .str _
    ·exact .int _ _
    ·exact zWL _
   ·exact ih x hx
 exact hf p x hx
theorem zWN (p:List Pr):zJV (zSI p):=.agg fun x hx=>by
 simp only [List.mem_cons,List.not_mem_nil,or_false] at hx
 subst hx; exact zWM p
theorem zWO (q:Qu):zJV (quV q):=.agg fun x hx=>by
 simp only [List.mem_cons,List.not_mem_nil,or_false] at hx
 rcases hx with rfl | rfl
 ·exact .int _ _
 ·exact zQI _

section
variable {B:Nat} {w0:World} {G:Nat->AV}
theorem c189_ok:zJD (EV B w0 G1) 189 C189x:=by
 rintro args σ Q ⟨mid,tab,p,rfl,⟨hp,hm⟩,hQ⟩
 have hlen:=hp.len
 let Bad:zA6->Prop:=fun σ=>zW6 tab p=false/\zUV mid tab σ
 let I:zVZ->Prop:=fun y=>y.i<=p.length/\zW6 tab (p.take y.i)=true/\zUV mid tab y.σ
 let R:zVZ->Prop:=fun y=>zW6 tab p=true/\zUV mid tab y.σ
 let P2:zW7->zVZ->Prop:=fun g y=>y.i<=g.q.cls.length/\g.i<p.length/\p[g.i]? = some g.q/\((g.q.cls.take y.i).all fun c=>zW5 tab g.q.arity c)=true/\zUV mid tab y.σ
 let R2:zW7->zVZ->Prop:=fun g y=>(g.q.cls.all fun c=>zW5 tab g.q.arity c)=true/\zUV mid tab y.σ
 have hH:zIP (EV B w0 G1) (H189 (EV B w0 G1) mid tab):=zJJ (zKM B w0 G1) (zJI c214_ok (zJI (zVI zLR mid tab) zJH))
 refine zKF (cuts:=[]) (zKM B w0 G1) zMZ (fun lp hl _ Q a' σ kk => ?_) ((vc189 B w0 G1 mid p I R Bad σ Q).mpr ⟨⟨σ,0⟩,⟨Nat.zero_le _,rfl,hm⟩,⟨rfl,rfl,by rw [List.length_map],rfl,rfl,.refl _⟩,fun y' hy => ?_,fun σ' h => ?_⟩)
 ·change lp∈zKE Tryz.prog [] 189 at hl
  rw [zWA] at hl
  simp only [List.mem_cons,List.not_mem_nil,or_false] at hl
  subst hl
  obtain ⟨y0,hI0,hat,hR1,hR2⟩:=kk
  refine zK5 (zW9 mid p I Bad) (x0:=y0) (fun y hI => ?_) (fun y hI e a' σ hne kk => ?_) hI0 hat
  ·obtain ⟨σy,i⟩:=y
   obtain ⟨hi,hg,hm⟩:=hI
   change i<=p.length at hi
   change zW6 tab (p.take i)=true at hg
   change zUV mid tab σy at hm
   refine zKC (cuts:=[]) zMZ (zKM B w0 G1) (L:=T189i mid p P2 R2 Bad) _ _ _ _ (fun lp hp2 hc Q a σ k => ?_) (by kernel_rfl) ((vc189l B w0 G1 mid p P2 R2 I Bad i σy).mpr (zE2 (fun h => ?_) (fun h=>⟨fun h2 => ?_,.refl _⟩)))
   ·rw [parts189] at hp2
    simp only [List.mem_cons,List.not_mem_nil,or_false] at hp2
    subst hp2
    obtain ⟨g,y1,hP,hat,hk1,hk2⟩:=k
    refine zK5 (zW8 mid p g (P2 g) Bad) (x0:=y1) (fun y hI => ?_) (fun y hI e a' σ hne kk => ?_) hP hat
    ·obtain ⟨q,ip⟩:=g
     obtain ⟨σz,j⟩:=y
     obtain ⟨hj,hip,hq,hall,hm⟩:=hI
     change j<=q.cls.length at hj
     change ip<p.length at hip
     change p[ip]? = some q at hq
     change ((q.cls.take j).all fun c=>zW5 tab q.arity c)=true at hall
     change zUV mid tab σz at hm
     have hqm:q∈p:=List.mem_of_getElem? hq
     have hcl:=hp.cls q hqm
     have bad:∀ hj:j<q.cls.length,zW5 tab q.arity q.cls[j]=false->zW6 tab p=false:=fun hj h=>by
      have h2:(q.cls.all fun c=>zW5 tab q.arity c)=false:=zWI hj h
      rw [List.getElem?_eq_getElem hip] at hq
      refine zWI (P:=fun q:Pr=>q.cls.all fun c=>zW5 tab q.arity c) hip ?_
      rw [Option.some.inj hq]; exact h2
     refine zP3 hH (zKM B w0 G1) (by kernel_rfl) ((vc189i B w0 G1 mid tab p q ip (P2 ⟨q,ip⟩) Bad j σz).mpr (zE2 (fun h => ?_) (fun h=>⟨fun h2 => ?_,rfl,rfl,rfl,rfl,rfl,.refl _⟩)))
     ·have h:(j:Int)<(q.cls.length:Int):=of_decide_eq_true h
      have hj2:j<q.cls.length:=by omega
      have hsm:=hp.cl q hqm _ (List.getElem_mem hj2)
      have hst:=zWH (P:=fun c=>zW5 tab q.arity c) hj2
      rw [hall,Bool.true_and] at hst
      refine ⟨⟨by show (0:Int)<=(j:Int); omega,by rw [List.length_map]; exact h⟩,q.cls[j],?_,_,_,rfl,hsm,zE2 (fun h1=>⟨_,⟨bad hj2 ?_,hm.untok⟩,rfl,.refl _⟩) (fun h1=>⟨_,rfl,⟨?_,hm.untok⟩,fun σ' hm'=>zE2 (fun h2=>⟨_,⟨bad hj2 ?_,hm'⟩,rfl,.refl _⟩) (fun h2=>⟨⟨σ',j+1⟩,⟨⟨hj2,hip,hq,?_,hm'⟩,?_⟩,rfl,rfl,rfl,rfl,rfl,rfl,rfl,?_,rfl,rfl,.refl _⟩)⟩)⟩
      ·show AV.vptr (AV.cells (List.getD (q.cls.map clV) (Int.toNat (j:Int)) AV.undef))=_
       rw [Int.toNat_natCast]; exact zWG hj2
      ·unfold zW5
       rw [show zSC q.cls[j] q.arity=false by simpa using h1]; rfl
      ·have:=hsm.2.2; omega
      ·unfold zW5
       rw [Bool.not_eq_true'] at h2
       rw [h2,Bool.and_false]
      ·show ((q.cls.take (j+1)).all fun c=>zW5 tab q.arity c)=true
       rw [hst]
       unfold zW5
       rw [Bool.not_eq_false'] at h1 h2
       rw [h1,h2]; rfl
      ·show q.cls.length - (j+1)<q.cls.length - j
       omega
      ·exact congrArg (fun z=>TV.v (iZ z)) (by rw [show ((j:Int)+1)=((j+1:Nat):Int) by omega,zN8 (by omega) (by omega)])
     ·have h:¬ (j:Int)<(q.cls.length:Int):=of_decide_eq_false h
      have h2:j<q.cls.length:=h2
      omega
    ·obtain ⟨q,ip⟩:=g
     obtain ⟨σz,j⟩:=y
     obtain ⟨hj,hip,hq,hall,hm⟩:=hI
     change j<=q.cls.length at hj
     change ((q.cls.take j).all fun c=>zW5 tab q.arity c)=true at hall
     change zUV mid tab σz at hm
     cases e with
     | exit n =>
      match n,kk with
      | 2,kk =>
       obtain ⟨hk,hat⟩:=kk
       have hk:¬ j<q.cls.length:=hk
       rw [show j=q.cls.length by omega,List.take_length] at hall
       exact ⟨_,_,(zJM hat).1,(zJM hat).2,hk1 ⟨σz,j⟩ ⟨hall,hm⟩⟩
     | ret =>
      obtain ⟨σ1,hb,hat⟩:=kk
      exact ⟨_,_,(zJM hat).1,(zJM hat).2,hk2 σ1 hb⟩
     | normal=>exact absurd rfl hne
     | _=>exact kk.elim
   ·have h:=of_decide_eq_true h
    have hi2:i<p.length:=by omega
    refine ⟨⟨by omega,by rw [List.length_map]; omega⟩,p[i],by rw [Int.toNat_natCast]; exact zWF hi2,⟨p[i],i⟩,⟨σy,0⟩,⟨Nat.zero_le _,hi2,List.getElem?_eq_getElem hi2,rfl,hm⟩,⟨rfl,rfl,rfl,rfl,rfl,rfl,by rw [List.length_map],rfl,rfl,rfl,.refl _⟩,fun y' hy=>⟨⟨y'.σ,i+1⟩,⟨⟨hi2,?_,hy.2⟩,?_⟩,rfl,rfl,rfl,?_,rfl,.refl _⟩,fun σ1 hb=>⟨σ1,hb,rfl,.refl _⟩⟩
    ·show zW6 tab (p.take (i+1))=true
     have:=zWH (P:=fun q:Pr=>q.cls.all fun c=>zW5 tab q.arity c) hi2
     unfold zW6 at hg ⊢
     rw [this,hg,Bool.true_and]
     exact hy.1
    ·show p.length - (i+1)<p.length - i
     omega
    ·exact congrArg (fun z=>TV.v (iZ z)) (by rw [show ((i:Int)+1)=((i+1:Nat):Int) by omega,zN8 (by omega) (by omega)])
   ·have h:¬ (i:Int)<(p.length:Int):=of_decide_eq_false h
    have h2:i<p.length:=h2
    omega
  ·obtain ⟨σy,i⟩:=y
   obtain ⟨hi,hg,hm⟩:=hI
   change i<=p.length at hi
   change zW6 tab (p.take i)=true at hg
   change zUV mid tab σy at hm
   cases e with
   | exit n =>
    match n,kk with
    | 0,kk =>
     obtain ⟨hk,hat⟩:=kk
     have hk:¬ i<p.length:=hk
     rw [show i=p.length by omega,List.take_length] at hg
     exact ⟨_,_,(zJM hat).1,(zJM hat).2,hR1 ⟨σy,i⟩ ⟨hg,hm⟩⟩
   | ret =>
    obtain ⟨σ1,hb,hat⟩:=kk
    exact ⟨_,_,(zJM hat).1,(zJM hat).2,hR2 σ1 hb⟩
   | normal=>exact absurd rfl hne
   | _=>exact kk.elim
 ·have:=hQ _ hy.2
  rw [hy.1] at this; exact this
 ·have:=hQ _ h.2
  rw [h.1] at this; exact this
theorem c167x_ok:zJD (EV B w0 G1) 167 C167x:=fun args σ Q ⟨mid,tab,l,h1,h2⟩=>zVI zLR mid tab args σ Q ⟨l,h1,h2⟩
theorem c165_ok:zJD (EV B w0 G1) 165 C165:=by
 rintro args σ Q ⟨p,rfl,hp,hQ1,hQ2⟩
 rw [zWJ] at hQ1 hQ2
 refine zKF (cuts:=[]) (zKM B w0 G1) (zJJ (zKM B w0 G1) (zJI (c188_ok zLR) (zJI c189_ok zJH))) (fun lp hl _ Q a' σ' kk=>kk.elim) ((vc165 B w0 G1 p σ Q).mpr ⟨p,rfl,hp,fun mid σ' hm=>zE2 (fun h=>hQ2 (by rw [show zSE p=false by simpa using h]; rfl) _) (fun h => ?_)⟩)
 have h:zSE p=true:=by simpa using h
 refine ⟨mid,p.map Pr.sym,p,rfl,⟨hp,hm h⟩,fun σ2 hm2=>zE2 (fun h2=>hQ2 ?_ _) (fun h2=>hQ1 ?_ _ _ hm2)⟩
 ·rw [show zW6 (p.map Pr.sym) p=false by simpa using h2]; simp
 ·rw [h,show zW6 (p.map Pr.sym) p=true by simpa using h2]; rfl
theorem c166_ok:zJD (EV B w0 G1) 166 C166:=by
 rintro args σ Q ⟨q,rfl,hlen,hQ⟩
 refine zN1 zLR (fun x hx => ?_) (.bool _) (fun Q hQ => ?_) hQ
 ·simp only [List.mem_cons,List.not_mem_nil,or_false] at hx
  subst hx; exact zWO q
 have no:zSG q=false->∀ σ',Q (.bool false) σ':=fun h σ'=>by rw [h] at hQ; exact hQ σ'
 have hH:zIP (EV B w0 G1) (hnd (EV B w0 G1) zHI zMU [(106,C106),(190,C190),(191,C191),(192,C192 193 zS9 (fun _=>True))]):=zJJ (zKM B w0 G1) (zJI (zTB zLR) (zJI (zTA zLR) (zJI (zU0 zLR) (zJI (zSP zLR (by unfold Has; kernel_rfl) (c193_ok zLR _)) zJH))))
 refine zKF (cuts:=[]) (zKM B w0 G1) hH (fun lp hl _ Q a' σ' kk=>kk.elim) ((vc166 B w0 G1 q Q).mpr ?_)
 unfold zSG at no hQ
 simp only [zMH]
 refine zE2 (fun h1=>⟨q.goals,rfl,by omega,zE2 (fun h2 => ?_) (fun h2 => ?_)⟩) (fun h1=>no (by rw [decide_eq_false (show ¬ q.goals.length<=16 by have:=of_decide_eq_false h1; omega)]; rfl) _)
 ·have h1:=of_decide_eq_true h1
  rw [decide_eq_true (show q.goals.length<=16 by omega),Bool.true_and] at hQ no
  have h2:zS5 q.goals=true:=by
   cases e:zS5 q.goals with
   | true=>rfl
   | false=>rw [e,if_neg (by simp)] at h2; cases h2
  rw [h2,Bool.true_and] at hQ no
  refine ⟨q.goals,rfl,⟨by omega,(zT6.1 h2).1⟩,zE2 (fun h3=>zE2 (fun h4=>⟨q.goals,q.vars,rfl,⟨h2,by omega⟩,zE2 (fun h5=>⟨q.goals,rfl,⟨by omega,fun _ _=>trivial⟩,?_⟩) (fun h5 => ?_)⟩) (fun h4 => ?_)) (fun h3 => ?_)⟩
  ·have h3:=of_decide_eq_true h3
   rw [decide_eq_true (show sizeL q.goals<=400 by omega),h4,h5,Bool.true_and,Bool.true_and,Bool.true_and] at hQ
   exact hQ _
  ·rw [h5] at no; exact no (by simp) _
  ·rw [h4] at no; exact no (by simp) _
  ·have h3:=of_decide_eq_false h3
   rw [decide_eq_false (show ¬ sizeL q.goals<=400 by omega)] at no
   exact no rfl _
 ·have h2:zS5 q.goals=false:=by
   cases e:zS5 q.goals with
   | false=>rfl
   | true=>rw [e,if_pos rfl] at h2; cases h2
  rw [h2] at no
  exact no (by simp) _
theorem c137_ok:zJD (EV B w0 G1) 137 C137:=by
 rintro args σ Q ⟨p,q,rfl,⟨hp,hq⟩,hQ1,hQ2⟩
 rw [zWK] at hQ1 hQ2
 refine zKF (cuts:=[]) (zKM B w0 G1) (zJJ (zKM B w0 G1) (zJI c165_ok (zJI c166_ok (zJI c167x_ok zJH)))) (fun lp hl _ Q a' σ' kk=>kk.elim) ((vc137 B w0 G1 p q σ Q).mpr ⟨p,rfl,hp,fun hs mid σ' hm=>⟨q,rfl,hq,?_⟩,fun h σ' => ?_⟩)
 ·rw [hs,Bool.true_and] at hQ1
  refine zE2 (fun h => ?_) (fun h=>⟨mid,p.map Pr.sym,q.goals,rfl,⟨by omega,hm.untok⟩,fun σ2 hm2=>zE2 (fun h2 => ?_) (fun h2 => ?_)⟩)
  ·rw [Bool.not_eq_true'] at h
   rw [h] at hQ1
   exact hQ1 _ _
  ·rw [Bool.not_eq_true'] at h2
   rw [h2,Bool.and_false] at hQ1
   exact hQ1 _ _
  ·rw [Bool.not_eq_false'] at h h2
   rw [h,h2] at hQ1
   exact hQ1 _ _
 ·rw [h] at hQ2
  exact hQ2 _
theorem c121_ok:zJD (EV B w0 G1) 121 C121:=by
 rintro args σ Q ⟨p,q,rfl,h0,hQ⟩
 refine zN1 zLR (fun x hx => ?_) (.int _ _) (fun Q hQ => ?_) hQ
 ·simp only [List.mem_cons,List.not_mem_nil,or_false] at hx
  rcases hx with rfl | rfl
  ·exact zWN p
  ·exact zWO q
 exact zKF (cuts:=[]) (zKM B w0 G1) (zJJ (zKM B w0 G1) (zJI c137_ok zJH)) (fun lp hl _ Q a' σ' kk=>kk.elim) ((vc121 B w0 G1 p q Q).mpr ⟨p,q,rfl,h0,fun _ _=>hQ _,fun _=>hQ _⟩)
end
end Go.V
