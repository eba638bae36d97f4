/- A part of the proof of the statement S8 (texts brought together and shortened by a program of this work). -/
import Derived.Test.YtgnjidopnplbbaaGreatDoorQ27
import Derived.Test.YtgnjidopnplbbaaGreatDoorQ25
import Derived.Test.YtgnjidopnplbbaaGreatDoorQ11
set_option maxRecDepth 1000000
set_option linter.unusedVariables false
set_option linter.unusedSimpArgs false
set_option linter.unusedSectionVars false
namespace Go.V
open Go Go.Proofs

theorem orC_ok {E:Env} {f:Nat} {a b:zJC} (ha:zJD E f a) (hb:zJD E f b):zJD E f (orC a b):=fun args σ Q h=>h.elim (ha args σ Q) (hb args σ Q)
theorem zUO (c:Cl):sizeL c.all=sizeL c.head+sizeL c.guard+sizeL c.body:=by
 unfold Cl.all; rw [zT3,zT3]
theorem zUP {c:Cl} (h:zS5 c.all=true):zS5 c.head=true/\zS5 c.guard=true/\zS5 c.body=true:=by
 have hs:=zUO c
 rw [zT6] at h
 refine ⟨zT6.2 ⟨fun x hx=>h.1 x ?_,by omega⟩,zT6.2 ⟨fun x hx=>h.1 x ?_,by omega⟩,zT6.2 ⟨fun x hx=>h.1 x ?_,by omega⟩⟩
 all_goals unfold Cl.all; simp [hx]
theorem zUQ {l:List T} (h:zS5 l=true):(zS7 l).length<=4000:=by
 have:=zTF l
 have:=zTT h
 omega
section
variable {B:Nat} {w0:World} {G:Nat->AV}
theorem c226_ok:zJD (EV B w0 G1) 226 C226:=by
 rintro args σ Q ⟨c,arity,rfl,⟨hb1,hb2,hb3⟩,hQ⟩
 refine zN1 zLR (fun x hx => ?_) (.bool _) (fun Q hQ => ?_) hQ
 ·simp only [List.mem_cons,List.not_mem_nil,or_false] at hx
  rcases hx with rfl | rfl
  ·exact zUM c
  ·exact .int _ _
 have hH:zIP (EV B w0 G1) (H226 (EV B w0 G1) (SizeOf.sizeOf c.guard+1) 0 (zS7 c.head)):=zJJ (zKM B w0 G1) (zJI (zUN zLR) (zJI (zTB zLR) (zJI (zTA zLR) (zJI (zTZ zLR) (zJI (c229_ok zLR _ _)
  (zJI (orC_ok (zSP zLR (by unfold Has; kernel_rfl) (c232_ok _)) (zSP zLR (by unfold Has; kernel_rfl) (c234_ok zLR _))) zJH))))))
 have hal:c.all.length=c.head.length+c.guard.length+c.body.length:=by unfold Cl.all; simp; omega
 have no:zSB c arity=false->∀ σ',Q (.bool false) σ':=fun h σ'=>by rw [h] at hQ; exact hQ σ'
 refine zKF (cuts:=[]) (zKM B w0 G1) hH (fun lp hl _ Q a' σ' kk=>kk.elim) ((vc226 B w0 G1 _ (zS7 c.head) c arity Q).mpr ?_)
 unfold zSB at no hQ
 simp only [zMH]
 refine zE2 (fun h1=>no (by rw [decide_eq_false (by have:=of_decide_eq_true h1; omega)]; rfl) _) (fun h1 => ?_)
 have h1:=of_decide_eq_false h1
 refine zE2 (fun h2=>no (by rw [decide_eq_false (show ¬ c.mark<=2 by have:=of_decide_eq_true h2; omega)]; simp) _) (fun h2 => ?_)
 have h2:=of_decide_eq_false h2
 refine zE2 (fun h3=>no (by rw [decide_eq_false (show ¬ (c.head.length:Int)=arity by simpa [bne] using h3)]; simp) _) (fun h3 => ?_)
 have h3:(c.head.length:Int)=arity:=by simpa [bne] using h3
 refine zE2 (fun h4=>no (by rw [decide_eq_false (show ¬ c.guard.length<=8 by have:=of_decide_eq_true h4; omega)]; simp) _) (fun h4 => ?_)
 have h4:=of_decide_eq_false h4
 refine zE2 (fun h5=>no (by rw [decide_eq_false (show ¬ c.body.length<=16 by have:=of_decide_eq_true h5; omega)]; simp) _) (fun h5=>⟨c,rfl,⟨hb1,hb2,hb3⟩,c.all,rfl,by omega,?_⟩)
 have h5:=of_decide_eq_false h5
 rw [decide_eq_true (show 0<=c.mark by omega),decide_eq_true (show c.mark<=2 by omega),decide_eq_true h3,decide_eq_true (show c.guard.length<=8 by omega),decide_eq_true (show c.body.length<=16 by omega)] at hQ no
 refine zE2 (fun h6=>no ?_ _) (fun h6 => ?_)
 ·cases e:zS5 c.all with
  | false=>rfl
  | true=>rw [e,if_pos rfl] at h6; cases h6
 have h6:zS5 c.all=true:=by
  cases e:zS5 c.all with
  | true=>rfl
  | false=>rw [e,if_neg (by simp)] at h6; cases h6
 obtain ⟨t1,t2,t3⟩:=zUP h6
 have v1:=zUQ t1
 have v2:=zUQ t2
 have v3:=zUQ h6
 rw [h6] at hQ no
 refine ⟨c.all,rfl,⟨by omega,(zT6.1 h6).1⟩,zE2 (fun h7=>no (by rw [decide_eq_false (by have:=of_decide_eq_true h7; omega)]; rfl) _) (fun h7=>⟨c.all,rfl,⟨h6,by omega⟩,c.head,rfl,⟨t1,by omega⟩,⟨[.nilslice],false⟩,rfl,Nat.le_refl _,c.guard,rfl,⟨t2,by omega⟩,?_⟩)⟩
 have h7:=of_decide_eq_false h7
 rw [decide_eq_true (show sizeL c.all<=400 by omega)] at hQ no
 simp only [zPA]
 refine zE2 (fun h8=>⟨zS7 c.guard,rfl,⟨⟨by omega,by omega⟩,false,rfl⟩,fun σ' hσ' => ?_⟩) (fun h8=>no (by rw [decide_eq_false (by have:=of_decide_eq_false h8; omega)]; rfl) _)
 have h8:=of_decide_eq_true h8
 rw [decide_eq_true (show (zS7 c.all).length<=64 by omega)] at hQ no
 refine zE2 (fun h9 => .inl ⟨c.guard,rfl,⟨by omega,fun x hx=>⟨zNO ((zT6.1 t2).1 x hx),by have:=List.sizeOf_lt_of_mem hx; omega⟩⟩,zE2 (fun h10 => .inr ⟨c.body,rfl,⟨by omega,fun _ _=>trivial⟩,?_⟩) (fun h10 => ?_)⟩) (fun h9=>no (by rw [h9]; rfl) _)
 ·rw [h9,h10] at hQ; exact hQ _
 ·exact no (by rw [h10,h9]; rfl) _
theorem c214_ok:zJD (EV B w0 G1) 214 C214:=by
 rintro args σ Q ⟨c,arity,rfl,hb,hQ⟩
 refine zN1 zLR (fun x hx => ?_) (.bool _) (fun Q hQ => ?_) hQ
 ·simp only [List.mem_cons,List.not_mem_nil,or_false] at hx
  rcases hx with rfl | rfl
  ·exact zUM c
  ·exact .int _ _
 unfold zSC at hQ
 have hal:c.all.length=c.head.length+c.guard.length+c.body.length:=by unfold Cl.all; simp; omega
 refine zKF (cuts:=[]) (zKM B w0 G1) (zJJ (zKM B w0 G1) (zJI c226_ok (zJI (zUN zLR) (zJI (zU0 zLR) zJH)))) (fun lp hl _ Q a' σ' kk=>kk.elim) ((vc214 B w0 G1 c arity Q).mpr ⟨c,arity,rfl,hb,zE2 (fun h=>⟨c,rfl,hb,?_⟩) (fun h => ?_)⟩)
 ·have ht:zS5 c.all=true:=by
   unfold zSB at h
   simp only [Bool.and_eq_true] at h
   exact h.2.1.1
  rw [h,Bool.true_and] at hQ
  exact ⟨rfl,rfl,c.all,c.vars,rfl,⟨ht,by omega⟩,hQ _⟩
 ·rw [h,Bool.false_and] at hQ
  exact ⟨rfl,rfl,hQ _⟩
end
end Go.V
namespace Go.V
open Go Go.Proofs
variable (B:Nat) (w0:World) (G:Nat->AV)
def zUR (l:List Sym):List AV:=l.map fun s=>zRJ s.1 s.2
def C196:zJC:=fun args σ K=>∃ l:List T,args=[slV l]/\(l.length<=1000000/\K (.slice 2 (zUR (zSD l)) .any) σ.untok)
def zUS (l:List T) (I:zUC->Prop):LS zUC where
 F y:=[(3,.v y.v),(11,.v (slV l)),(12,.v (iZ (l.length:Int))),(13,.v (iZ (y.i:Int)))]
 FL _:=[]
 S y:=y.σ
 I:=I
 μ y:=l.length - y.i
 Ex y e a σ:=match e with
  | .exit 0=>¬ (y.i<l.length)/\atF a [(3,.v y.v)] [] (y.σ.Le σ)
  | _=>False
def N196:zIE:=hAt [(4,0,hT),(8,3,hEl 240 2)]
theorem zUT:zKE Tryz.prog [] 196=[.loop (lB 196 0)]:=by kernel_rfl
def H196 (E:Env):zDY:=hnd E zHI zMU [(194,C194),(220,C220)]
theorem vc196n (l:List T) (I:zUC->Prop) (i:Nat) (σ:zA6):(wpX [] (EV B w0 G) (H196 (EV B w0 G)) nL (zHI 196) N196 (lB 196 0) ((zUS l I).post ⟨σ,.nilslice,i⟩) (frm ((zUS l I).F ⟨σ,.nilslice,i⟩) []) σ) =
 (bcase (decide ((i:Int)<(List.length l:Int)))
 (((0:Int)<=(i:Int)/\(i:Int)<(List.length (tcellL l):Int))/\∃ x0:T,AV.vptr (AV.cells (List.getD (tcellL l) (Int.toNat (↑i:Int)) AV.undef))=AV.vptr (tc x0)/\∃ t1:T,[AV.agg (tc x0)]=[AV.agg (tc t1)]/\bcase (((Prod.fst (zRC t1)):Int)==1)
 (∃ t2:T,[AV.agg (tc (Prod.snd (Prod.snd (zRC t1))))]=[AV.agg (tc t2)]/\Bd0 24 1/\∃ x'3:zUC,(I x'3/\LS.μ (zUS l I) x'3<LS.μ (zUS l I) (zUC.mk σ AV.nilslice i))/\TV.v (AV.rslice (zA6.next σ) 0 1)=TV.v (zUC.v x'3)/\Rf (TV.v (sT l))/\Rf (TV.v (iZ (List.length l:Int)))/\TV.v (iZ (IntKind.wrap .i64 ((i:Int)+1)))=TV.v (iZ (zUC.i x'3:Int))/\zA6.Le ((zUS l I).3 x'3) (zA6.new (Ut (Ut σ)) (zA5.cells [AV.str (T.s t2),iZ (List.length (T.l t2):Int)] 240 2 true)))
 (∃ x'2:zUC,(I x'2/\LS.μ (zUS l I) x'2<LS.μ (zUS l I) (zUC.mk σ AV.nilslice i))/\TV.v AV.nilslice=TV.v (zUC.v x'2)/\Rf (TV.v (sT l))/\Rf (TV.v (iZ (List.length l:Int)))/\TV.v (iZ (IntKind.wrap .i64 ((i:Int)+1)))=TV.v (iZ (zUC.i x'2:Int))/\zA6.Le ((zUS l I).3 x'2) (Ut σ)))
 (((i<List.length l)->False)/\Rf (TV.v AV.nilslice)/\zA6.Le σ σ)):=by kernel_rfl
theorem vc196r (l:List T) (I:zUC->Prop) (id n i:Nat) (σ:zA6):(wpX [] (EV B w0 G) (H196 (EV B w0 G)) nL (zHI 196) N196 (lB 196 0) ((zUS l I).post ⟨σ,.rslice id 0 n,i⟩) (frm ((zUS l I).F ⟨σ,.rslice id 0 n,i⟩) []) σ) =
 (bcase (decide ((i:Int)<(List.length l:Int)))
 (((0:Int)<=(i:Int)/\(i:Int)<(List.length (tcellL l):Int))/\∃ x0:T,AV.vptr (AV.cells (List.getD (tcellL l) (Int.toNat (↑i:Int)) AV.undef))=AV.vptr (tc x0)/\∃ t1:T,[AV.agg (tc x0)]=[AV.agg (tc t1)]/\bcase (((Prod.fst (zRC t1)):Int)==1)
 (∃ t2:T,[AV.agg (tc (Prod.snd (Prod.snd (zRC t1))))]=[AV.agg (tc t2)]/\∃ a3:OE,zA6.objs (Ut (Ut σ)) id=zA5.cells (OE.cs a3) 240 2 (OE.g a3)/\((0:Nat)=0/\Bd (n+1) 24/\((n*2):Nat)<=List.length (OE.cs a3))/\∃ x'4:zUC,(I x'4/\LS.μ (zUS l I) x'4<LS.μ (zUS l I) (zUC.mk σ (AV.rslice id 0 n) i))/\TV.v (AV.rslice (zA6.next σ) 0 (n+1))=TV.v (zUC.v x'4)/\Rf (TV.v (sT l))/\Rf (TV.v (iZ (List.length l:Int)))/\TV.v (iZ (IntKind.wrap .i64 ((i:Int)+1)))=TV.v (iZ (zUC.i x'4:Int))/\zA6.Le ((zUS l I).3 x'4) (zA6.new (zA6.set (Ut (Ut σ)) id zA5.dead) (zA5.cells ((List.take (n*2) (OE.cs a3))++[AV.str (T.s t2),iZ (List.length (T.l t2):Int)]) 240 2 true)))
 (∃ x'2:zUC,(I x'2/\LS.μ (zUS l I) x'2<LS.μ (zUS l I) (zUC.mk σ (AV.rslice id 0 n) i))/\TV.v (AV.rslice id 0 n)=TV.v (zUC.v x'2)/\Rf (TV.v (sT l))/\Rf (TV.v (iZ (List.length l:Int)))/\TV.v (iZ (IntKind.wrap .i64 ((i:Int)+1)))=TV.v (iZ (zUC.i x'2:Int))/\zA6.Le ((zUS l I).3 x'2) (Ut σ)))
 (((i<List.length l)->False)/\Rf (TV.v (AV.rslice id 0 n))/\zA6.Le σ σ)):=by kernel_rfl
def T196 (l:List T) (I R:zUC->Prop):zFV:=fun _ Q a σ=>∃ y:zUC,I y/\atF a ((zUS l I).F y) [] (y.σ.Le σ)/\∀ y':zUC,R y'->Q (.exit 0) (frm [(3,.v y'.v)] []) y'.σ
theorem vc196 (l:List T) (I R:zUC->Prop) (Q:AV->zA6->Prop):(zKD [] (EV B w0 G) (H196 (EV B w0 G)) (T196 l I R) zHI N196 196 [slV l] zJZ Q) =
 (∃ y0:zUC,I y0/\(TV.v AV.nilslice=TV.v (zUC.v y0)/\Rf (TV.v (sT l))/\TV.v (iZ (List.length (tcellL l):Int))=TV.v (iZ (List.length l:Int))/\TV.v (iZ 0)=TV.v (iZ (zUC.i y0:Int))/\zA6.Le y0.1 zJZ)/\(∀ y'1:zUC,((R y'1)->(Q (zUC.v y'1) y'1.1)))):=by kernel_rfl
def zUU (tab:List Sym):List (AV×AV):=tab.zipIdx.map fun x=>(zRJ x.1.1 x.1.2,iZ (x.2:Int))
structure zUV (mid:Nat) (tab:List Sym) (σ:zA6):Prop where
 lt:mid<σ.next
 obj:σ.objs mid = .map (zUU tab)
structure zUW (b mid:Nat) (tab:List Sym) (σ:zA6):Prop where
 lt:b<σ.next
 ne:b≠mid
 obj:∃ g,σ.objs b = .cells [.map mid,.nilmap] 228 2 g
 map:zUV mid tab σ
def C197 (b mid:Nat) (tab:List Sym):zJC:=fun args σ K=>∃ (s:ByteArray) (n:Int),args=[zRJ s n,.ptr b 0]/\(zUW b mid tab σ/\K (.bool (!zR9 tab s n)) σ)
def hTab (mid:Nat):zIB:=zIB.of (fun g:Bool=>zA5.cells [.map mid,.nilmap] 228 2 g)
def hLookN:zIB:=zIB.ofAs (fun es:List (AV×AV)=>zA5.map es) (fun x:Nat×Bool=>AV.tuple [iZ (x.1:Int),.bool x.2])
def N197 (mid:Nat):zIE:=hAt [(1,0,hTab mid)]
def C198 (mid:Nat) (tab:List Sym):zJC:=fun args σ K=>∃ (s:ByteArray) (n:Int),args=[.agg [.map mid,.nilmap],zRJ s n]/\(σ.objs mid = .map (zUU tab)/\∀ i:Int,K (.tuple [iZ i,.bool (zR9 tab s n)]) σ)
theorem vc198 (mid:Nat) (s:ByteArray) (n:Int) (σ:zA6) (Q:AV->zA6->Prop):(zKD [] (EV B w0 G) (H0 (EV B w0 G)) nL zHI (hAt [(1,3,hLookN)]) 198 [.agg [.map mid,.nilmap],zRJ s n] σ Q) =
 (∃ a0:List (AV×AV),(zA6.objs σ mid)=zA5.map a0/\∃ a1:AV,zI9 Tryz.prog 225 a0 (AV.agg [AV.str s,iZ n]) true a1/\∃ x2:Nat×Bool,a1=AV.tuple [iZ ((Prod.fst x2:Nat):Int),AV.bool (Prod.snd x2)]/\bcase (Prod.snd x2)
 (Q (AV.tuple [iZ ((Prod.fst x2:Nat):Int),AV.bool true]) σ)
 (Q (AV.tuple [iZ (-1),AV.bool false]) σ)):=by kernel_rfl
theorem vc197 (b mid:Nat) (tab:List Sym) (s:ByteArray) (n:Int) (σ:zA6) (Q:AV->zA6->Prop):(zKD [] (EV B w0 G) (hnd (EV B w0 G) zHI zMU [(198,C198 mid tab)]) nL zHI (N197 mid) 197 [zRJ s n,.ptr b 0] σ Q) =
 (∃ a0:Bool,zA6.objs σ b=zA5.cells [AV.map mid,AV.nilmap] 228 2 a0/\(2:Nat)<=2/\∃ s1:ByteArray,∃ n2:Int,[AV.agg [AV.map mid,AV.nilmap],AV.agg [AV.str s,iZ n]]=[AV.agg [AV.map mid,AV.nilmap],AV.agg [AV.str s1,iZ n2]]/\zA6.objs σ mid=zA5.map (zUU tab)/\(∀ i3:Int,Q (AV.bool (!(zR9 tab s1 n2))) σ)):=by kernel_rfl
def zUX (b:Nat):AV:=.func (.func 197) [] [.ptr b 0]
def C219 (b mid:Nat) (tab:List Sym):zJC:=fun args σ K=>∃ l:List Sym,args=[.slice 2 (zUR l) .any,zUX b]/\((l.length<=1000000/\zUW b mid tab σ)/\(((∃ s∈l,zR9 tab s.1 s.2=false)->∀ i:Nat,i<l.length->K (iZ (i:Int)) σ)/\((∀ s∈l,zR9 tab s.1 s.2=true)->K (iZ (-1)) σ)))
def C195 (b mid:Nat) (tab:List Sym):zJC:=fun args σ K=>∃ l:List Sym,args=[.slice 2 (zUR l) .any,zUX b]/\((l.length<=1000000/\zUW b mid tab σ)/\K (.bool (l.any fun s => !zR9 tab s.1 s.2)) σ)
def zUY (b:Nat) (l:List Sym) (σ:zA6) (I:Nat->Prop) (X:Exit->Nat->Prop):LS Nat where
 F i:=[(0,.v (.slice 2 (zUR l) .any)),(1,.v (zUX b)),(7,.v (iZ (l.length:Int))),(8,.v (iZ (i:Int)))]
 FL _:=[]
 S _:=σ
 I:=I
 μ i:=l.length - i
 Ex i e a σ':=match e with
  | .exit 0=>X (.exit 0) i/\atF a [] [] (σ.Le σ')
  | .ret=>X .ret i/\atF a [(4,.v (iZ (i:Int)))] [] (σ.Le σ')
  | _=>False
def hSym:zIB:=zIB.as (fun s:Sym => .vptr [.str s.1,iZ s.2])
theorem zUZ:zKE Tryz.prog [] 219=[.loop (lB 219 0)]:=by kernel_rfl
def N219:zIE:=hAt [(4,3,hSym)]
theorem vc219l (b mid:Nat) (tab l:List Sym) (σ:zA6) (I:Nat->Prop) (X:Exit->Nat->Prop) (i:Nat):(wpX [] (EV B w0 G) (hnd (EV B w0 G) zHI zMU [(197,C197 b mid tab)]) nL (zHI 219) N219 (lB 219 0) ((zUY b l σ I X).post i) (frm ((zUY b l σ I X).F i) []) σ) =
 (bcase (decide ((i:Int)<(List.length l:Int)))
 (((0:Int)<=(i:Int)/\(i:Int)<(List.length (zUR l):Int))/\∃ x0:Sym,AV.vptr (AV.cells (List.getD (zUR l) (Int.toNat (↑i:Int)) AV.undef))=AV.vptr [AV.str (Prod.fst x0),iZ (Prod.snd x0)]/\∃ s1:ByteArray,∃ n2:Int,[AV.agg [AV.str (Prod.fst x0),iZ (Prod.snd x0)],AV.ptr b 0]=[AV.agg [AV.str s1,iZ n2],AV.ptr b 0]/\zUW b mid tab σ/\bcase (!(zR9 tab s1 n2))
 (X Go.Exit.ret i/\Rf (TV.v (iZ (i:Int)))/\zA6.Le σ σ)
 (∃ x'3:Nat,(I x'3/\LS.μ (zUY b l σ I X) x'3<LS.μ (zUY b l σ I X) i)/\Rf (TV.v (AV.slice 2 (zUR l) Cap.any))/\Rf (TV.v (AV.func (Go.Fn.func 197) [] [AV.ptr b 0]))/\Rf (TV.v (iZ (List.length l:Int)))/\TV.v (iZ (IntKind.wrap .i64 ((i:Int)+1)))=TV.v (iZ (x'3:Int))/\zA6.Le ((zUY b l σ I X).3 x'3) σ))
 (X (Go.Exit.exit 0) i/\zA6.Le σ σ)):=by kernel_rfl
def T219 (b:Nat) (l:List Sym) (σ0:zA6) (I:Nat->Prop) (X:Exit->Nat->Prop):zFV:=fun _ Q a σ=>I 0/\atF a ((zUY b l σ0 I X).F 0) [] (σ0.Le σ)/\((∀ i:Nat,X (.exit 0) i->Q (.exit 0) (frm [] []) σ0)/\(∀ i:Nat,X .ret i->Q .ret (frm [(4,.v (iZ (i:Int)))] []) σ0))
theorem vc219 (b mid:Nat) (tab l:List Sym) (I:Nat->Prop) (X:Exit->Nat->Prop) (σ:zA6) (Q:AV->zA6->Prop):(zKD [] (EV B w0 G) (hnd (EV B w0 G) zHI zMU [(197,C197 b mid tab)]) (T219 b l σ I X) zHI N219 219 [.slice 2 (zUR l) .any,zUX b] σ Q) =
 (I 0/\(Rf (TV.v (AV.slice 2 (zUR l) Cap.any))/\Rf (TV.v (AV.func (Go.Fn.func 197) [] [AV.ptr b 0]))/\TV.v (iZ (List.length (zUR l):Int))=TV.v (iZ (List.length l:Int))/\Rf (TV.v (iZ 0))/\zA6.Le σ σ)/\(∀ i0:Nat,((X (Go.Exit.exit 0) i0)->(Q (iZ (-1)) σ)))/\(∀ i0:Nat,((X Go.Exit.ret i0)->(Q (iZ (i0:Int)) σ)))):=by kernel_rfl
theorem vc195 (b mid:Nat) (tab l:List Sym) (σ:zA6) (Q:AV->zA6->Prop):(zKD [] (EV B w0 G) (hnd (EV B w0 G) zHI zMU [(219,C219 b mid tab)]) nL zHI zMV 195 [.slice 2 (zUR l) .any,zUX b] σ Q) =
 (∃ l0:List Sym,[AV.slice 2 (zUR l) Cap.any,AV.func (Go.Fn.func 197) [] [AV.ptr b 0]]=[AV.slice 2 (zUR l0) Cap.any,AV.func (Go.Fn.func 197) [] [AV.ptr b 0]]/\(List.length l0<=1000000/\zUW b mid tab σ)/\((∃ s1:Sym,s1∈l0/\zR9 tab (Prod.fst s1) (Prod.snd s1)=false)->(∀ i1:Nat,((i1<List.length l0)->(Q (AV.bool true) σ))))/\((∀ s1:Sym,((s1∈l0)->(zR9 tab (Prod.fst s1) (Prod.snd s1)=true)))->(Q (AV.bool false) σ))):=by kernel_rfl
def C167 (mid:Nat) (tab:List Sym):zJC:=fun args σ K=>∃ l:List T,args=[.agg [.map mid,.nilmap],slV l]/\((l.length<=1000000/\zUV mid tab σ)/\∀ σ':zA6,zUV mid tab σ'->K (.bool ((zSD l).all fun s=>zR9 tab s.1 s.2)) σ')
theorem vc167 (b mid:Nat) (tab:List Sym) (l:List T) (σ:zA6) (Q:AV->zA6->Prop):(zKD [] (EV B w0 G) (hnd (EV B w0 G) zHI zMU [(196,C196),(195,C195 b mid tab)]) nL zHI zMV 167 [.agg [.map mid,.nilmap],slV l] σ Q) =
 (∃ l0:List T,[sT l]=[sT l0]/\List.length l0<=1000000/\∃ l1:List Sym,[AV.slice 2 (zUR (zSD l0)) Cap.any,AV.func (Go.Fn.func 197) [] [AV.ptr (zA6.next σ) 0]]=[AV.slice 2 (zUR l1) Cap.any,AV.func (Go.Fn.func 197) [] [AV.ptr b 0]]/\(List.length l1<=1000000/\zUW b mid tab (Ut (zA6.new σ (zA5.cells (AV.cells (zAA (Env.G (EV B w0 G)) (zDN.low (zEN [AV.agg [AV.map mid,AV.nilmap],slV l])) (Go.Operand.tmp 0))) 228 2 Bool.false))))/\Q (AV.bool (!(List.any l1 fun s => !zR9 tab (Prod.fst s) (Prod.snd s)))) (Ut (zA6.new σ (zA5.cells [AV.map mid,AV.nilmap] 228 2 false)))):=by kernel_rfl
end Go.V
namespace Go.V
open Go Go.Proofs

theorem zV0 (l:List Sym):(zUR l).length=l.length:=by unfold zUR; rw [List.length_map]
theorem zV1 {l:List Sym} {i:Nat} (h:i<l.length):List.getD (zUR l) i AV.undef=zRJ l[i].1 l[i].2:=by
 unfold zUR
 rw [List.getD_eq_getElem?_getD,List.getElem?_eq_getElem (by rw [List.length_map]; exact h),List.getElem_map]; rfl
theorem zV2 (a b:List Sym):zUR (a++b)=zUR a++zUR b:=by unfold zUR; rw [List.map_append]
theorem zV3:∀ l:List Sym,(zA0 (zUR l)).length=l.length*2
 | []=>rfl
 | x :: l=>by
  have:=zV3 l
  show (zA0 (zRJ x.1 x.2 :: zUR l)).length=(l.length+1)*2
  rw [zC3,List.length_append,this]
  show 2+_=_
  omega
theorem zV4:∀ l:List Sym,zAH (some 2) (zA0 (zUR l)) l.length=zUR l
 | []=>rfl
 | x :: l=>by
  show zAH (some 2) (zA0 (zRJ x.1 x.2 :: zUR l)) (l.length+1)=_
  rw [zC3]
  show AV.agg ((([.str x.1,iZ x.2]:List AV)++zA0 (zUR l)).take 2) :: zAH (some 2) ((([.str x.1,iZ x.2]:List AV)++zA0 (zUR l)).drop 2) l.length=_
  rw [List.take_left' (by rfl),List.drop_left' (by rfl),zV4 l]; rfl
theorem zV5 (P:Program) (σ:zA6) (n:Nat):∀ l:List Sym,(zUR l).mapM (deep P σ (n+2))=some (zUR l)
 | []=>rfl
 | x :: l=>by
  show (zRJ x.1 x.2 :: zUR l).mapM (deep P σ (n+2))=_
  rw [List.mapM_cons,zV5 P σ n l]; rfl
theorem kind240:zAC Tryz.prog 240=some (some 2):=by kernel_rfl
theorem zV6:∀ (l:List Sym),∀ x∈zA0 (zUR l),zJV x:=fun l=>by
  induction l with
  | nil=>intro x hx; cases hx
  | cons y l ih =>
   intro x hx
   change x∈zA0 (zRJ y.1 y.2 :: zUR l) at hx
   rw [zC3,List.mem_append] at hx
   rcases hx with hx | hx
   ·change x∈([.str y.1,iZ y.2]:List AV) at hx
    simp only [List.mem_cons,List.not_mem_nil,or_false] at hx
    rcases hx with rfl | rfl
    ·exact .str _
    ·exact .int _ _
   ·exact ih x hx
theorem zV7 (l:List Sym):zJV (.slice 2 (zUR l) .any):=.slice (by simp) fun x hx=>zV6 l x hx

theorem zV8 {σ:zA6} {b:Nat} {cs:List AV} {e sz:Nat} {g:Bool} (h:σ.objs b = .cells cs e sz g):σ.untok.objs b = .cells cs e sz g:=by
 unfold zA6.untok; dsimp only; rw [h]
theorem zV9 {σ:zA6} {b:Nat} {es:List (AV×AV)} (h:σ.objs b = .map es):σ.untok.objs b = .map es:=by
 unfold zA6.untok; dsimp only; rw [h]
theorem zUV.untok {σ:zA6} {b:Nat} {tab:List Sym} (h:zUV b tab σ):zUV b tab σ.untok:=⟨h.lt,zV9 h.obj⟩
theorem zUV.new {σ:zA6} {b:Nat} {tab:List Sym} (h:zUV b tab σ) (o:zA5):zUV b tab (σ.new o):=⟨Nat.lt_succ_of_lt h.lt,by
 have h1:=h.lt
 show (if b=σ.next then o else σ.objs b)=_
 rw [if_neg (by omega)]; exact h.obj⟩

def zVA (σ:zA6) (v:AV) (acc:List Sym):Prop:=(v = .nilslice/\acc=[])\/∃ (id:Nat) (cs:List AV) (g:Bool),v = .rslice id 0 acc.length/\σ.objs id = .cells cs 240 2 g/\acc.length*2<=cs.length/\cs.take (acc.length*2)=zA0 (zUR acc)
theorem zVA.deep {σ:zA6} {v:AV} {acc:List Sym} (h:zVA σ v acc):∃ v',deep Tryz.prog σ 3 v=some v'/\Wk v' (.slice 2 (zUR acc) .any):=by
 rcases h with ⟨rfl,rfl⟩ | ⟨id,cs,g,rfl,h1,h2,h3⟩
 ·exact ⟨.nilslice,rfl,Wk.nil 2⟩
 ·refine ⟨.slice 2 (zUR acc) .nn,?_,Wk.slice _ _ _⟩
  refine zP5 (n:=2) (off:=0) (len:=acc.length) h1 kind240 rfl (by omega) (by omega) ?_
  rw [Nat.zero_mul,List.drop_zero,h3,zV4]
  exact zV5 _ _ _ acc
theorem zVA.append {τ:zA6} {id:Nat} {cs:List AV} {acc:List Sym} (x:Sym) (h3:cs.take (acc.length*2)=zA0 (zUR acc)):zVA (τ.new (.cells (cs.take (acc.length*2)++[.str x.1,iZ x.2]) 240 2 true)) (.rslice τ.next 0 (acc.length+1)) (acc++[x]):=by
 have e:zA0 (zUR (acc++[x]))=zA0 (zUR acc)++[.str x.1,iZ x.2]:=by
  rw [zV2,zC4]; rfl
 refine .inr ⟨τ.next,_,true,by rw [List.length_append]; rfl,zA6.new_objs _ _,?_,?_⟩
 ·rw [h3,<-e,zV3]; exact Nat.le_refl _
 ·rw [h3,<-e,<-zV3,List.take_length]
theorem zVB {l:List T} {i:Nat} (h:i<l.length):zSD (l.take (i+1))=zSD (l.take i)++if (zRC l[i]).1=1 then [((zRC l[i]).2.2.s,((zRC l[i]).2.2.l.length:Int))] else []:=by
 rw [List.take_succ_eq_append_getElem h]
 unfold zSD
 rw [List.filterMap_append]
 congr 1
 rw [List.filterMap_cons,List.filterMap_nil]
 split <;> simp_all
theorem zVC (l:List T):(zSD l).length<=l.length:=List.length_filterMap_le _ _

theorem zVD (s:ByteArray) (n:Int):∀ (l:List (Sym×Nat)) (p:Nat),∃ r,zAW Tryz.prog 240 (zRJ s n) (l.map fun x=>(zRJ x.1.1 x.1.2,iZ (x.2:Int))) p=some r/\((zR9 (l.map (·.1)) s n=true/\∃ j i:Nat,r=some (j,iZ (i:Int)))\/(zR9 (l.map (·.1)) s n=false/\r=none))
 | [],p=>⟨none,rfl,.inr ⟨rfl,rfl⟩⟩
 | x :: l,p=>by
  rw [List.map_cons,zAW]
  dsimp only
  rw [zRL]
  unfold zR9
  rw [List.map_cons,List.any_cons]
  have e:(zAI s x.1.1&&((n==x.1.2)&&true))=(zAI s x.1.1&&decide (n=x.1.2)):=by rw [Bool.and_true]; rfl
  rw [e]
  cases h:zAI s x.1.1&&decide (n=x.1.2) with
  | true=>exact ⟨_,rfl,.inl ⟨rfl,_,_,rfl⟩⟩
  | false =>
   obtain ⟨r,hr,h⟩:=zVD s n l (p+1)
   exact ⟨r,hr,by rw [Bool.false_or]; exact h⟩
theorem zVE (tab:List Sym):tab.zipIdx.map (·.1)=tab:=by simp
theorem zVF (tab:List Sym) (s:ByteArray) (n:Int):∃ i:Nat,zI9 Tryz.prog 225 (zUU tab) (zRJ s n) true (.tuple [iZ (i:Int),.bool (zR9 tab s n)]):=by
 obtain ⟨r,hr,h⟩:=zVD s n tab.zipIdx 0
 rw [zVE] at h
 have e0:zAX Tryz.prog 240 (zRJ s n)=true:=by kernel_rfl
 have e1:zAY Tryz.prog 225=some (240,3):=by kernel_rfl
 rcases h with ⟨h1,j,i,rfl⟩ | ⟨h1,rfl⟩
 ·refine ⟨i,?_⟩
  unfold zI9 zI8 zUU
  rw [e1]
  dsimp only
  rw [if_pos e0,hr,h1]; rfl
 ·refine ⟨0,?_⟩
  unfold zI9 zI8 zUU
  rw [e1]
  dsimp only
  rw [if_pos e0,hr,h1]; rfl
theorem zVG {tab:List Sym} {s:Sym}:zR9 tab s.1 s.2=true↔s∈tab:=by
 unfold zR9
 rw [List.any_eq_true]
 constructor
 ·rintro ⟨x,hx,h⟩
  rw [Bool.and_eq_true,decide_eq_true_eq] at h
  have:s=x:=by
   obtain ⟨a,b⟩:=s
   obtain ⟨c,d⟩:=x
   have:=zRD.1 h.1
   simp_all
  rw [this]; exact hx
 ·intro h
  exact ⟨s,h,by rw [Bool.and_eq_true,decide_eq_true_eq]; exact ⟨zRD.2 rfl,rfl⟩⟩
theorem zVH {α:Type} (P:α->Bool):∀ l:List α,(!(l.any fun x => !P x))=l.all P
 | []=>rfl
 | x :: l=>by
  rw [List.any_cons,List.all_cons,Bool.not_or,zVH P l,Bool.not_not]

section
variable {B:Nat} {w0:World} {G:Nat->AV}
theorem c198_ok (mid:Nat) (tab:List Sym):zJD (EV B w0 G) 198 (C198 mid tab):=by
 rintro args σ Q ⟨s,n,rfl,ho,hQ⟩
 refine zKF (cuts:=[]) (zKM B w0 G) zMZ (fun lp hl _ Q a' σ' kk=>kk.elim) ((vc198 B w0 G mid s n σ Q).mpr ?_)
 obtain ⟨i,hi⟩:=zVF tab s n
 refine ⟨_,ho,_,hi,(i,zR9 tab s n),rfl,zE2 (fun h => ?_) (fun h => ?_)⟩
 ·have h:zR9 tab s n=true:=h
  rw [h] at hQ; exact hQ _
 ·have h:zR9 tab s n=false:=h
  rw [h] at hQ; exact hQ _
theorem c197_ok (b mid:Nat) (tab:List Sym):zJD (EV B w0 G) 197 (C197 b mid tab):=by
 rintro args σ Q ⟨s,n,rfl,ht,hQ⟩
 refine zKF (cuts:=[]) (zKM B w0 G) (zJJ (zKM B w0 G) (zJI (c198_ok mid tab) zJH)) (fun lp hl _ Q a' σ' kk=>kk.elim) ((vc197 B w0 G b mid tab s n σ Q).mpr ?_)
 obtain ⟨g,hg⟩:=ht.obj
 exact ⟨g,hg,Nat.le_refl _,s,n,rfl,ht.map.obj,fun i=>hQ⟩
theorem c219_ok (b mid:Nat) (tab:List Sym):zJD (EV B w0 G) 219 (C219 b mid tab):=by
 rintro args σ Q ⟨l,rfl,⟨hlen,ht⟩,hQ1,hQ2⟩
 have hH:zIP (EV B w0 G) (hnd (EV B w0 G) zHI zMU [(197,C197 b mid tab)]):=zJJ (zKM B w0 G) (zJI (c197_ok b mid tab) zJH)
 let I:Nat->Prop:=fun i=>i<=l.length/\∀ s∈l.take i,zR9 tab s.1 s.2=true
 let X:Exit->Nat->Prop:=fun e i=>match e with
  | .exit 0=>∀ s∈l,zR9 tab s.1 s.2=true
  | .ret=>i<l.length/\∃ s∈l,zR9 tab s.1 s.2=false
  | _=>False
 refine zKF (cuts:=[]) (zKM B w0 G) hH (fun lp hl _ Q a' σ' kk => ?_) ((vc219 B w0 G b mid tab l I X σ Q).mpr ⟨⟨Nat.zero_le _,by simp⟩,⟨rfl,rfl,by rw [zV0],rfl,.refl _⟩,fun i h=>hQ2 h,fun i h=>hQ1 h.2 i h.1⟩)
 change lp∈zKE Tryz.prog [] 219 at hl
 rw [zUZ] at hl
 simp only [List.mem_cons,List.not_mem_nil,or_false] at hl
 subst hl
 obtain ⟨hI0,hat,hR1,hR2⟩:=kk
 refine zK5 (zUY b l σ I X) (x0:=0) (fun i hI => ?_) (fun i hI e a' σ hne kk => ?_) hI0 hat
 ·obtain ⟨hi,hg⟩:I i:=hI
  refine zP3 hH (zKM B w0 G) (by kernel_rfl) ((vc219l B w0 G b mid tab l σ I X i).mpr (zE2 (fun h => ?_) (fun h=>⟨?_,.refl _⟩)))
  ·have h:=of_decide_eq_true h
   have hi2:i<l.length:=by omega
   refine ⟨⟨by omega,by rw [zV0]; omega⟩,l[i],by rw [Int.toNat_natCast,zV1 hi2]; rfl,_,_,rfl,ht,zE2 (fun hp=>⟨⟨hi2,l[i],List.getElem_mem hi2,by simpa using hp⟩,rfl,.refl _⟩) (fun hp=>⟨i+1,⟨⟨hi2,fun s hs => ?_⟩,?_⟩,rfl,rfl,rfl,?_,.refl _⟩)⟩
   ·rw [List.take_succ_eq_append_getElem hi2,List.mem_append] at hs
    rcases hs with hs | hs
    ·exact hg s hs
    ·simp only [List.mem_cons,List.not_mem_nil,or_false] at hs
     subst hs; simpa using hp
   ·show l.length - (i+1)<l.length - i
    omega
   ·rw [show ((i:Int)+1)=((i+1:Nat):Int) by omega,zN8 (by omega) (by omega)]
  ·have h:=of_decide_eq_false h
   rw [show i=l.length by omega,List.take_length] at hg
   exact hg
 ·cases e with
  | exit j =>
   match j,kk with
   | 0,kk=>exact ⟨_,_,(zJM kk.2).1,(zJM kk.2).2,hR1 i kk.1⟩
  | ret=>exact ⟨_,_,(zJM kk.2).1,(zJM kk.2).2,hR2 i kk.1⟩
  | normal=>exact absurd rfl hne
  | _=>exact kk.elim
theorem c195_ok (b mid:Nat) (tab:List Sym):zJD (EV B w0 G) 195 (C195 b mid tab):=by
 rintro args σ Q ⟨l,rfl,h0,hQ⟩
 refine zKF (cuts:=[]) (zKM B w0 G) (zJJ (zKM B w0 G) (zJI (c219_ok b mid tab) zJH)) (fun lp hl _ Q a' σ' kk=>kk.elim) ((vc195 B w0 G b mid tab l σ Q).mpr ⟨l,rfl,h0,fun h i hi => ?_,fun h => ?_⟩)
 ·obtain ⟨s,hs,h⟩:=h
  have:(l.any fun s => !zR9 tab s.1 s.2)=true:=List.any_eq_true.2 ⟨s,hs,by rw [h]; rfl⟩
  rw [this] at hQ; exact hQ
 ·have:(l.any fun s => !zR9 tab s.1 s.2)=false:=by
   rw [List.any_eq_false]
   intro s hs
   rw [h s hs]; simp
  rw [this] at hQ; exact hQ

variable (hG:∀ i,zJV (G i))
include hG
theorem c196_ok:zJD (EV B w0 G) 196 C196:=by
 rintro args σ Q ⟨l,rfl,hlen,hQ⟩
 have hH:zIP (EV B w0 G) (H196 (EV B w0 G)):=zJJ (zKM B w0 G) (zJI (zSO hG) (zJI (zRU hG) zJH))
 refine zDV.pureD 3 hG (Q0:=fun v σ'=>zVA σ' v (zSD l)) (fun v hv => ?_) ?_ (fun v σ' k => ?_)
 ·simp only [List.mem_cons,List.not_mem_nil,or_false] at hv
  subst hv; exact zQI l
 rotate_left
 ·obtain ⟨v',h1,h2⟩:=k.deep
  exact ⟨v',_,h1,h2,zV7 _,hQ⟩
 let I:zUC->Prop:=fun y=>y.i<=l.length/\zVA y.σ y.v (zSD (l.take y.i))
 let R:zUC->Prop:=fun y=>zVA y.σ y.v (zSD l)
 refine zKF (cuts:=[]) (zKM B w0 G) hH (fun lp hl _ Q a' σ kk => ?_) ((vc196 B w0 G l I R _).mpr ⟨⟨zJZ,.nilslice,0⟩,⟨Nat.zero_le _,.inl ⟨rfl,rfl⟩⟩,⟨rfl,rfl,by rw [zMH],rfl,.refl _⟩,fun y' hy=>hy⟩)
 change lp∈zKE Tryz.prog [] 196 at hl
 rw [zUT] at hl
 simp only [List.mem_cons,List.not_mem_nil,or_false] at hl
 subst hl
 obtain ⟨y0,hI0,hat,hR⟩:=kk
 refine zK5 (zUS l I) (x0:=y0) (fun y hI => ?_) (fun y hI e a' σ hne kk => ?_) hI0 hat
 ·obtain ⟨σy,v,i⟩:=y
  obtain ⟨hi,hO⟩:=hI
  change i<=l.length at hi
  change zVA σy v (zSD (l.take i)) at hO
  have hcl:=zVC (l.take i)
  rw [List.length_take] at hcl
  have wI:i<l.length->IntKind.wrap .i64 ((i:Int)+1)=((i+1:Nat):Int):=fun h=>by rw [show ((i:Int)+1)=((i+1:Nat):Int) by omega,zN8 (by omega) (by omega)]
  rcases hO with ⟨rfl,hnil⟩ | ⟨id,cs,g,rfl,ho,hcs1,hcs⟩
  ·refine zP3 hH (zKM B w0 G) (by kernel_rfl) ((vc196n B w0 G l I i σy).mpr (zE2 (fun h => ?_) (fun h=>⟨fun h2 => ?_,rfl,.refl _⟩)))
   ·have h:(i:Int)<(l.length:Int):=of_decide_eq_true h
    have hi2:i<l.length:=by omega
    have hct:=zVB hi2
    rw [hnil,List.nil_append] at hct
    refine ⟨⟨by show (0:Int)<=(i:Int); omega,by rw [zMH]; exact h⟩,l[i],?_,l[i],rfl,zE2 (fun hg=>⟨_,rfl,⟨by omega,by omega⟩,⟨_,.rslice σy.next 0 1,i+1⟩,⟨⟨hi2,?_⟩,?_⟩,rfl,rfl,rfl,?_,.refl _⟩) (fun hg=>⟨⟨σy.untok,.nilslice,i+1⟩,⟨⟨hi2,.inl ⟨rfl,?_⟩⟩,?_⟩,rfl,rfl,rfl,?_,.refl _⟩)⟩
    ·show AV.vptr (AV.cells (List.getD (tcellL l) (Int.toNat (i:Int)) AV.undef))=_
     rw [Int.toNat_natCast]; exact zNA hi2
    ·show zVA _ _ (zSD (l.take (i+1)))
     rw [hct,if_pos (by simpa using hg)]
     exact zVA.append (τ:=σy.untok.untok) (id:=0) (cs:=[]) (acc:=[]) _ rfl
    ·show l.length - (i+1)<l.length - i
     omega
    ·exact congrArg (fun z=>TV.v (iZ z)) (wI hi2)
    ·show zSD (l.take (i+1))=[]
     rw [hct,if_neg (by simpa using hg)]
    ·show l.length - (i+1)<l.length - i
     omega
    ·exact congrArg (fun z=>TV.v (iZ z)) (wI hi2)
   ·have h:¬ (i:Int)<(l.length:Int):=of_decide_eq_false h
    have h2:i<l.length:=h2
    omega
  ·refine zP3 hH (zKM B w0 G) (by kernel_rfl) ((vc196r B w0 G l I id (zSD (l.take i)).length i σy).mpr (zE2 (fun h => ?_) (fun h=>⟨fun h2 => ?_,rfl,.refl _⟩)))
   ·have h:(i:Int)<(l.length:Int):=of_decide_eq_true h
    have hi2:i<l.length:=by omega
    have hct:=zVB hi2
    refine ⟨⟨by show (0:Int)<=(i:Int); omega,by rw [zMH]; exact h⟩,l[i],?_,l[i],rfl,zE2 (fun hg=>⟨_,rfl,⟨cs,g⟩,zV8 (zV8 ho),⟨rfl,⟨by omega,by omega⟩,hcs1⟩,⟨_,.rslice σy.next 0 ((zSD (l.take i)).length+1),i+1⟩,⟨⟨hi2,?_⟩,?_⟩,rfl,rfl,rfl,?_,.refl _⟩) (fun hg=>⟨⟨σy.untok,.rslice id 0 (zSD (l.take i)).length,i+1⟩,⟨⟨hi2,?_⟩,?_⟩,rfl,rfl,rfl,?_,.refl _⟩)⟩
    ·show AV.vptr (AV.cells (List.getD (tcellL l) (Int.toNat (i:Int)) AV.undef))=_
     rw [Int.toNat_natCast]; exact zNA hi2
    ·show zVA _ _ (zSD (l.take (i+1)))
     rw [hct,if_pos (by simpa using hg)]
     exact zVA.append (τ:=(σy.untok.untok.set id .dead)) (id:=id) _ hcs
    ·show l.length - (i+1)<l.length - i
     omega
    ·exact congrArg (fun z=>TV.v (iZ z)) (wI hi2)
    ·show zVA σy.untok _ (zSD (l.take (i+1)))
     rw [hct,if_neg (by simpa using hg),List.append_nil]
     exact .inr ⟨id,cs,g,rfl,zV8 ho,hcs1,hcs⟩
    ·show l.length - (i+1)<l.length - i
     omega
    ·exact congrArg (fun z=>TV.v (iZ z)) (wI hi2)
   ·have h:¬ (i:Int)<(l.length:Int):=of_decide_eq_false h
    have h2:i<l.length:=h2
    omega
 ·obtain ⟨σy,v,i⟩:=y
  obtain ⟨hi,hO⟩:=hI
  change i<=l.length at hi
  change zVA σy v (zSD (l.take i)) at hO
  cases e with
  | exit j =>
   match j,kk with
   | 0,kk =>
    obtain ⟨hk,hat⟩:=kk
    have hk:¬ i<l.length:=hk
    rw [show i=l.length by omega,List.take_length] at hO
    exact ⟨_,_,(zJM hat).1,(zJM hat).2,hR ⟨σy,v,i⟩ hO⟩
  | normal=>exact absurd rfl hne
  | _=>exact kk.elim
theorem zVI (mid:Nat) (tab:List Sym):zJD (EV B w0 G) 167 (C167 mid tab):=by
 rintro args σ Q ⟨l,rfl,⟨hlen,hm⟩,hQ⟩
 have hcl:=zVC l
 have hm':∀ o,zUV mid tab (zA6.untok (zA6.new σ o)):=fun o=>(hm.new o).untok
 refine zKF (cuts:=[]) (zKM B w0 G) (zJJ (zKM B w0 G) (zJI (c196_ok hG) (zJI (c195_ok σ.next mid tab) zJH))) (fun lp hl _ Q a' σ' kk=>kk.elim) ((vc167 B w0 G σ.next mid tab l σ Q).mpr ⟨l,rfl,hlen,zSD l,rfl,⟨by omega,?_⟩,?_⟩)
 ·refine ⟨Nat.lt_succ_self _,?_,⟨false,zV8 (zA6.new_objs _ _)⟩,hm' _⟩
  have:=hm.lt; omega
 ·rw [zVH (fun s:Sym=>zR9 tab s.1 s.2)]
  exact hQ _ (hm' _)
end
end Go.V
namespace Go.V
open Go Go.Proofs
variable (B:Nat) (w0:World) (G:Nat->AV)
def zVJ (t:T) (s:ByteArray) (n:Int):Bool:=if n=0 then isA t s else isF t s n
def C169:zJC:=fun args σ K=>∃ (t:T) (s:ByteArray) (n:Int),args=[.agg (tc t),.str s,iZ n]/\K (.bool (zVJ t s n)) σ.untok
theorem vc169 (t:T) (s:ByteArray) (n:Int) (Q:AV->zA6->Prop):(zKD [] (EV B w0 G) (H0 (EV B w0 G)) nL zHI zMV 169 [.agg (tc t),.str s,iZ n] zJZ Q) =
 (bcase ((n:Int)==0)
 (bcase (((T.k t):Int)==3)
 (Q (AV.bool (zAI (T.s t) s)) zJZ)
 (Q (AV.bool false) zJZ))
 (bcase (((T.k t):Int)==5)
 (bcase (zAI (T.s t) s)
 (Q (AV.bool ((List.length (tcellL (T.l t)):Int)==n)) zJZ)
 (Q (AV.bool false) zJZ))
 (Q (AV.bool false) zJZ))):=by kernel_rfl
def bNone:ByteArray:=⟨⟨[]⟩⟩
def C171:zJC:=fun args σ K=>∃ (t:T),args=[.agg (tc t)]/\((zRP t=true->K (.tuple [zRJ t.s (t.l.length:Int),.bool true]) σ.untok)/\(zRP t=false->K (.tuple [zRJ bNone 0,.bool false]) σ.untok))
theorem vc171 (t:T) (Q:AV->zA6->Prop):(zKD [] (EV B w0 G) (H0 (EV B w0 G)) nL zHI zMV 171 [.agg (tc t)] zJZ Q) =
 (bcase (((T.k t):Int) != 3)
 (bcase (((T.k t):Int) != 5)
 (Q (AV.tuple [AV.agg [AV.str ⟨⟨[]⟩⟩,iZ 0],AV.bool false]) zJZ)
 (Q (AV.tuple [AV.agg [AV.str (T.s t),iZ (List.length (tcellL (T.l t)):Int)],AV.bool true]) zJZ))
 (Q (AV.tuple [AV.agg [AV.str (T.s t),iZ (List.length (tcellL (T.l t)):Int)],AV.bool true]) zJZ)):=by kernel_rfl
def C145:zJC:=fun args σ K=>∃ (l:List Sym) (m:Cap) (s:ByteArray) (n:Int),args=[.slice 2 (zUR l) m,zRJ s n]/\((l.length<=1000000/\∀ id,m ≠ .tok id)/\K (.bool (zR9 l s n)) σ.untok)
def zVK (l:List Sym) (m:Cap) (s:ByteArray) (n:Int):LS Nat where
 F i:=[(0,.v (.slice 2 (zUR l) m)),(3,.l 3 0),(5,.v (iZ (i:Int)))]
 FL _:=[(3,[.str s,iZ n])]
 S _:=zJZ
 I i:=i<=l.length/\zR9 (l.take i) s n=false
 μ i:=l.length - i
 Ex i e a σ:=match e with
  | .exit 0=>¬ (i<l.length)/\atF a [] [] True
  | .ret=>zR9 l s n=true/\atF a [(4,.v (.bool true))] [] True
  | _=>False
def N145:zIE:=hAt [(4,2,hSym)]
theorem zVL:zKE Tryz.prog [] 145=[.loop (lB 145 0)]:=by kernel_rfl
theorem vc145l (l:List Sym) (m:Cap) (s:ByteArray) (n:Int) (i:Nat):(wpX [] (EV B w0 G) (H0 (EV B w0 G)) nL (zHI 145) N145 (lB 145 0) ((zVK l m s n).post i) (frm ((zVK l m s n).F i) ((zVK l m s n).FL i)) zJZ) =
 (bcase (decide ((i:Int)<(List.length (zUR l):Int)))
 (((0:Int)<=(i:Int)/\(i:Int)<(List.length (zUR l):Int))/\∃ x0:Sym,AV.vptr (AV.cells (List.getD (zUR l) (Int.toNat (↑i:Int)) AV.undef))=AV.vptr [AV.str (Prod.fst x0),iZ (Prod.snd x0)]/\bcase ((zAI (Prod.fst x0) s)&&((((Prod.snd x0):Int)==n)&&true))
 (zR9 l s n=true/\Rf (TV.v (AV.bool true))/\True)
 (∃ x'1:Nat,((x'1<=List.length l/\zR9 (List.take x'1 l) s n=false)/\LS.μ (zVK l m s n) x'1<LS.μ (zVK l m s n) i)/\Rf (TV.v (AV.slice 2 (zUR l) m))/\Rf (TV.l 3 0)/\TV.v (iZ (IntKind.wrap .i64 ((i:Int)+1)))=TV.v (iZ (x'1:Int))/\Rf [AV.str s,iZ n]/\zA6.Le ((zVK l m s n).3 x'1) zJZ))
 (((i<List.length l)->False)/\True)):=by kernel_rfl
def T145 (l:List Sym) (m:Cap) (s:ByteArray) (n:Int):zFV:=fun _ Q a σ=>atF a ((zVK l m s n).F 0) ((zVK l m s n).FL 0) (zJZ.Le σ)/\((zR9 l s n=false->∀ σ':zA6,Q (.exit 0) (frm [] []) σ')/\(zR9 l s n=true->∀ σ':zA6,Q .ret (frm [(4,.v (.bool true))] []) σ'))
theorem vc145 (l:List Sym) (m:Cap) (s:ByteArray) (n:Int) (Q:AV->zA6->Prop):(zKD [] (EV B w0 G) (H0 (EV B w0 G)) (T145 l m s n) zHI N145 145 [.slice 2 (zUR l) m,zRJ s n] zJZ Q) =
 ((Rf (TV.v (AV.slice 2 (zUR l) m))/\Rf (TV.l 3 0)/\Rf (TV.v (iZ 0))/\Rf [AV.str s,iZ n]/\zA6.Le zJZ zJZ)/\((zR9 l s n=false)->(∀ σ'0:zA6,Q (AV.bool false) σ'0))/\((zR9 l s n=true)->(∀ σ'0:zA6,Q (AV.bool true) σ'0))):=by kernel_rfl
def zVM:List Sym:=[(⟨⟨[118,101,99,116,111,114,95,110,101,119]⟩⟩,2),(⟨⟨[118,101,99,116,111,114,95,115,105,122,101]⟩⟩,3),(⟨⟨[118,101,99,116,111,114,95,103,101,116]⟩⟩,4),(⟨⟨[118,101,99,116,111,114,95,115,101,116]⟩⟩,4),
 (⟨⟨[115,116,114,105,110,103,95,110,101,119]⟩⟩,2),(⟨⟨[115,116,114,105,110,103,95,115,105,122,101]⟩⟩,3),(⟨⟨[115,116,114,105,110,103,95,103,101,116]⟩⟩,4),(⟨⟨[115,116,114,105,110,103,95,115,101,116]⟩⟩,4),(⟨⟨[115,116,114,105,110,103,95,106,111,105,110]⟩⟩,3)]
def C200:zJC:=fun args σ K=>args=[]/\K (.slice 2 (zUR zVM) .full) σ.untok
def C199:zJC:=fun args σ K=>args=[]/\K (.slice 2 (zUR (zR7++zVM)) .nn) σ.untok
def C168:zJC:=fun args σ K=>∃ (s:ByteArray) (n:Int),args=[zRJ s n]/\K (.bool (zR9 (zR7++zVM) s n)) σ.untok
theorem vc168 (s:ByteArray) (n:Int) (Q:AV->zA6->Prop):(zKD [] (EV B w0 G) (hnd (EV B w0 G) zHI zMU [(199,C199),(145,C145)]) nL zHI zMV 168 [zRJ s n] zJZ Q) =
 (([]:List AV)=[]/\Rf (TV.v (AV.agg [AV.str s,iZ n]))/\∃ l0:List Sym,∃ m1:Cap,∃ s2:ByteArray,∃ n3:Int,[AV.slice 2 [AV.agg [AV.str ⟨⟨[116,114,117,101]⟩⟩,iZ 0],AV.agg [AV.str ⟨⟨[61]⟩⟩,iZ 2],AV.agg [AV.str ⟨⟨[58,61]⟩⟩,iZ 2],AV.agg [AV.str ⟨⟨[64]⟩⟩,iZ 2],AV.agg [AV.str ⟨⟨[58,45]⟩⟩,iZ 2],AV.agg [AV.str ⟨⟨[58,45]⟩⟩,iZ 1],AV.agg [AV.str ⟨⟨[44]⟩⟩,iZ 2],AV.agg [AV.str ⟨⟨[124]⟩⟩,iZ 2],AV.agg [AV.str ⟨⟨[111,116,104,101,114,119,105,115,101]⟩⟩,iZ 0],AV.agg [AV.str ⟨⟨[97,108,116,101,114,110,97,116,105,118,101,108,121]⟩⟩,iZ 0],AV.agg [AV.str ⟨⟨[118,101,99,116,111,114,95,110,101,119]⟩⟩,iZ 2],AV.agg [AV.str ⟨⟨[118,101,99,116,111,114,95,115,105,122,101]⟩⟩,iZ 3],AV.agg [AV.str ⟨⟨[118,101,99,116,111,114,95,103,101,116]⟩⟩,iZ 4],AV.agg [AV.str ⟨⟨[118,101,99,116,111,114,95,115,101,116]⟩⟩,iZ 4],AV.agg [AV.str ⟨⟨[115,116,114,105,110,103,95,110,101,119]⟩⟩,iZ 2],AV.agg [AV.str ⟨⟨[115,116,114,105,110,103,95,115,105,122,101]⟩⟩,iZ 3],AV.agg [AV.str ⟨⟨[115,116,114,105,110,103,95,103,101,116]⟩⟩,iZ 4],AV.agg [AV.str ⟨⟨[115,116,114,105,110,103,95,115,101,116]⟩⟩,iZ 4],AV.agg [AV.str ⟨⟨[115,116,114,105,110,103,95,106,111,105,110]⟩⟩,iZ 3]] Cap.nn,AV.agg [AV.str s,iZ n]]=[AV.slice 2 (zUR l0) m1,AV.agg [AV.str s2,iZ n3]]/\(List.length l0<=1000000/\(∀ id4:Nat,m1≠(Cap.tok id4)))/\Q (AV.bool (zR9 l0 s2 n3)) (Ut (Ut zJZ))):=by kernel_rfl
def C170:zJC:=fun args σ K=>∃ (t:T),args=[.agg (tc t)]/\K (iZ (zRA t)) σ.untok
theorem vc170 (t:T) (Q:AV->zA6->Prop):(zKD [] (EV B w0 G) (hnd (EV B w0 G) zHI zMU [(171,C171),(169,C169),(200,C200),(145,C145),(168,C168)]) nL zHI zMV 170 [.agg (tc t)] zJZ Q) =
 (∃ t0:T,[AV.agg (tc t)]=[AV.agg (tc t0)]/\((zRP t0=true)->(∃ t1:T,∃ s2:ByteArray,∃ n3:Int,[AV.agg (tc t),AV.str ⟨⟨[116,114,117,101]⟩⟩,iZ 0]=[AV.agg (tc t1),AV.str s2,iZ n3]/\bcase (zVJ t1 s2 n3)
 (Q (iZ 2) (Ut (Ut zJZ)))
 (∃ t4:T,∃ s5:ByteArray,∃ n6:Int,[AV.agg (tc t),AV.str ⟨⟨[61]⟩⟩,iZ 2]=[AV.agg (tc t4),AV.str s5,iZ n6]/\bcase (zVJ t4 s5 n6)
 (Q (iZ 3) (Ut (Ut (Ut zJZ))))
 (∃ t7:T,∃ s8:ByteArray,∃ n9:Int,[AV.agg (tc t),AV.str ⟨⟨[58,61]⟩⟩,iZ 2]=[AV.agg (tc t7),AV.str s8,iZ n9]/\bcase (zVJ t7 s8 n9)
 (Q (iZ 4) (Ut (Ut (Ut (Ut zJZ)))))
 (([]:List AV)=[]/\Rf (TV.v (AV.agg [AV.str (T.s t0),iZ (List.length (T.l t0):Int)]))/\∃ l10:List Sym,∃ m11:Cap,∃ s12:ByteArray,∃ n13:Int,[AV.slice 2 [AV.agg [AV.str ⟨⟨[118,101,99,116,111,114,95,110,101,119]⟩⟩,iZ 2],AV.agg [AV.str ⟨⟨[118,101,99,116,111,114,95,115,105,122,101]⟩⟩,iZ 3],AV.agg [AV.str ⟨⟨[118,101,99,116,111,114,95,103,101,116]⟩⟩,iZ 4],AV.agg [AV.str ⟨⟨[118,101,99,116,111,114,95,115,101,116]⟩⟩,iZ 4],AV.agg [AV.str ⟨⟨[115,116,114,105,110,103,95,110,101,119]⟩⟩,iZ 2],AV.agg [AV.str ⟨⟨[115,116,114,105,110,103,95,115,105,122,101]⟩⟩,iZ 3],AV.agg [AV.str ⟨⟨[115,116,114,105,110,103,95,103,101,116]⟩⟩,iZ 4],AV.agg [AV.str ⟨⟨[115,116,114,105,110,103,95,115,101,116]⟩⟩,iZ 4],AV.agg [AV.str ⟨⟨[115,116,114,105,110,103,95,106,111,105,110]⟩⟩,iZ 3]] Cap.full,AV.agg [AV.str (T.s t0),iZ (List.length (T.l t0):Int)]]=[AV.slice 2 (zUR l10) m11,AV.agg [AV.str s12,iZ n13]]/\(List.length l10<=1000000/\(∀ id14:Nat,m11≠(Cap.tok id14)))/\bcase (zR9 l10 s12 n13)
 (Q (iZ 5) (Ut (Ut (Ut (Ut (Ut (Ut zJZ)))))))
 (∃ s14:ByteArray,∃ n15:Int,[AV.agg [AV.str (T.s t0),iZ (List.length (T.l t0):Int)]]=[AV.agg [AV.str s14,iZ n15]]/\bcase (zR9 (zR7++zVM) s14 n15)
 (Q (iZ 0) (Ut (Ut (Ut (Ut (Ut (Ut (Ut zJZ))))))))
 (Q (iZ 1) (Ut (Ut (Ut (Ut (Ut (Ut (Ut zJZ))))))))))))))/\((zRP t0=false)->(Q (iZ 0) (Ut zJZ)))):=by kernel_rfl
def C142:zJC:=fun args σ K=>∃ (t:T),args=[.agg (tc t)]/\K (.tuple [iZ (zRC t).1,iZ (zRC t).2.1,.agg (tc (zRC t).2.2)]) σ.untok
theorem vc142 (t:T) (Q:AV->zA6->Prop):(zKD [] (EV B w0 G) (hnd (EV B w0 G) zHI zMU [(169,C169),(170,C170)]) nL zHI (hAt [(3,2,hT),(3,9,hT),(3,17,hT),(5,2,hT),(6,2,hT)]) 142 [.agg (tc t)] zJZ Q) =
 (∃ t0:T,∃ s1:ByteArray,∃ n2:Int,[AV.agg (tc t),AV.str ⟨⟨[64]⟩⟩,iZ 2]=[AV.agg (tc t0),AV.str s1,iZ n2]/\bcase (zVJ t0 s1 n2)
 (((0:Int)<=1/\(1:Int)<(List.length (tcellL (T.l t)):Int))/\∃ x3:T,AV.vptr (AV.cells (List.getD (tcellL (T.l t)) 1 AV.undef))=AV.vptr (tc x3)/\bcase (((T.k x3):Int) != 2)
 (Q (AV.tuple [iZ 0,iZ 0,AV.agg [iZ 0,iZ 0,AV.str ⟨⟨[]⟩⟩,AV.nilslice]]) (Ut zJZ))
 (((0:Int)<=1/\(1:Int)<(List.length (tcellL (T.l t)):Int))/\∃ x4:T,AV.vptr (AV.cells (List.getD (tcellL (T.l t)) 1 AV.undef))=AV.vptr (tc x4)/\bcase (decide (((T.n x4):Int)<0))
 (Q (AV.tuple [iZ 0,iZ 0,AV.agg [iZ 0,iZ 0,AV.str ⟨⟨[]⟩⟩,AV.nilslice]]) (Ut zJZ))
 (((0:Int)<=1/\(1:Int)<(List.length (tcellL (T.l t)):Int))/\∃ x5:T,AV.vptr (AV.cells (List.getD (tcellL (T.l t)) 1 AV.undef))=AV.vptr (tc x5)/\bcase (decide (((T.n x5):Int) > 15))
 (Q (AV.tuple [iZ 0,iZ 0,AV.agg [iZ 0,iZ 0,AV.str ⟨⟨[]⟩⟩,AV.nilslice]]) (Ut zJZ))
 (((0:Int)<=1/\(1:Int)<(List.length (tcellL (T.l t)):Int))/\∃ x6:T,AV.vptr (AV.cells (List.getD (tcellL (T.l t)) 1 AV.undef))=AV.vptr (tc x6)/\((0:Int)<=0/\(0:Int)<(List.length (tcellL (T.l t)):Int))/\∃ x7:T,AV.vptr (AV.cells (List.getD (tcellL (T.l t)) 0 AV.undef))=AV.vptr (tc x7)/\∃ t8:T,[AV.agg (tc x7)]=[AV.agg (tc t8)]/\bcase (((zRA t8):Int)==0)
 (Q (AV.tuple [iZ 0,iZ 0,AV.agg [iZ 0,iZ 0,AV.str ⟨⟨[]⟩⟩,AV.nilslice]]) (Ut (Ut zJZ)))
 (Q (AV.tuple [iZ (zRA t8),iZ (T.n x6),AV.agg (tc x7)]) (Ut (Ut zJZ)))))))
 (∃ t3:T,[AV.agg (tc t)]=[AV.agg (tc t3)]/\bcase (((zRA t3):Int)==0)
 (Q (AV.tuple [iZ 0,iZ 0,AV.agg [iZ 0,iZ 0,AV.str ⟨⟨[]⟩⟩,AV.nilslice]]) (Ut (Ut zJZ)))
 (Q (AV.tuple [iZ (zRA t3),iZ 0,AV.agg (tc t)]) (Ut (Ut zJZ))))):=by kernel_rfl
end Go.V
namespace Go.V
open Go Go.Proofs

section
variable {B:Nat} {w0:World} {G:Nat->AV}
theorem zVN (hG:∀ i,zJV (G i)) {f lf k:Nat} {args:List AV} {r:AV} (ha:noIdL args=true) (hr:zJW r=true) (h:zHD (EV B w0 G) zHI (fun _=>none) lf k (.fn f) args zJZ (zLP r)=true) {σ:zA6} {Q:AV->zA6->Prop} (hQ:Q r σ.untok):zDV (EV B w0 G) f args σ Q:=by
 refine zDV.pureD 60 hG (noIdL_ok _ ha).1 (zHF (zKM B w0 G) (T:=fun _=>none) (fun f h e=>by cases e) k (.fn f) args zJZ _ h) fun v σ' kk => ?_
 unfold zLP at kk
 split at kk
 ·rename_i v' hv'
  have:=AV.same_ok _ _ kk
  subst this
  exact ⟨_,_,hv',.refl _,(zJX _ hr).1,hQ⟩
 ·cases kk
end
end Go.V
namespace Go.V
open Go Go.Proofs

theorem zVO (a b:ByteArray):zAI a b=zAI b a:=by
 cases h:zAI a b with
 | true=>rw [zRD.1 h,zRD.2 rfl]
 | false =>
  cases h2:zAI b a with
  | true=>rw [zRD.1 h2,zRD.2 rfl] at h; cases h
  | false=>rfl
theorem zVP (a b:List Sym) (s:ByteArray) (n:Int):zR9 (a++b) s n=(zR9 a s n || zR9 b s n):=by
 unfold zR9; rw [List.any_append]
theorem zVQ (s:ByteArray) (n:Int):zR9 zVM s n=zR9 opsL s n:=by
 unfold zR9 zVM opsL
 simp only [List.any_cons,List.any_nil,Bool.or_false]
 ac_rfl
theorem zVR (s:ByteArray) (n:Int):zR9 (zR7++zVM) s n=resS s n:=by
 rw [zVP,zVQ,Bool.or_comm]; rfl
theorem zVS {l:List Sym} {i:Nat} (h:i<l.length) (s:ByteArray) (n:Int):zR9 (l.take (i+1)) s n=(zR9 (l.take i) s n || (zAI l[i].1 s&&((l[i].2==n)&&true))):=by
 rw [List.take_succ_eq_append_getElem h,zVP]
 congr 1
 unfold zR9
 rw [List.any_cons,List.any_nil,Bool.or_false,zVO,Bool.and_true]
 congr 1
 rw [Bool.eq_iff_iff,decide_eq_true_eq,beq_iff_eq]
 exact eq_comm
theorem zVT {l:List Sym} {i:Nat} {s:ByteArray} {n:Int} (h:zR9 (l.take i) s n=true):zR9 l s n=true:=by
 have:l=l.take i++l.drop i:=(List.take_append_drop i l).symm
 rw [this,zVP,h,Bool.true_or]

section
variable {B:Nat} {w0:World} {G:Nat->AV}
theorem run200:zHD (EV B w0 G) zHI (fun _=>none) 200 100 (.fn 200) [] zJZ (zLP (.slice 2 (zUR zVM) .full))=true:=by kernel_rfl
theorem run199:zHD (EV B w0 G) zHI (fun _=>none) 200 100 (.fn 199) [] zJZ (zLP (.slice 2 (zUR (zR7++zVM)) .nn))=true:=by kernel_rfl
variable (hG:∀ i,zJV (G i))
include hG
theorem c200_ok:zJD (EV B w0 G) 200 C200:=by
 rintro args σ Q ⟨rfl,hQ⟩
 exact zVN hG (by kernel_rfl) (by kernel_rfl) run200 hQ
theorem c199_ok:zJD (EV B w0 G) 199 C199:=by
 rintro args σ Q ⟨rfl,hQ⟩
 exact zVN hG (by kernel_rfl) (by kernel_rfl) run199 hQ
theorem zVU:zJD (EV B w0 G) 169 C169:=by
 rintro args σ Q ⟨t,s,n,rfl,hQ⟩
 refine zN1 hG (fun v hv => ?_) (.bool _) (fun Q hQ => ?_) hQ
 ·simp only [List.mem_cons,List.not_mem_nil,or_false] at hv
  rcases hv with rfl | rfl | rfl
  ·exact zMK t
  ·exact .str _
  ·exact .int _ _
 unfold zVJ isA isF at hQ
 refine zKF (cuts:=[]) (zKM B w0 G) zMZ (fun lp hl _ Q a' σ' kk=>kk.elim) ((vc169 B w0 G t s n Q).mpr (zE2 (fun h1 => ?_) (fun h1 => ?_)))
 ·rw [if_pos (by simpa using h1)] at hQ
  refine zE2 (fun h2 => ?_) (fun h2 => ?_)
  ·rw [decide_eq_true (by simpa using h2),Bool.true_and] at hQ; exact hQ _
  ·rw [decide_eq_false (by simpa using h2),Bool.false_and] at hQ; exact hQ _
 ·rw [if_neg (by simpa using h1)] at hQ
  refine zE2 (fun h2 => ?_) (fun h2 => ?_)
  ·rw [decide_eq_true (by simpa using h2),Bool.true_and] at hQ
   refine zE2 (fun h3 => ?_) (fun h3 => ?_)
   ·rw [h3,Bool.true_and] at hQ
    rw [zMH]; exact hQ _
   ·rw [h3,Bool.false_and] at hQ; exact hQ _
  ·rw [decide_eq_false (by simpa using h2),Bool.false_and] at hQ; exact hQ _
theorem zVV:zJD (EV B w0 G) 171 C171:=by
 rintro args σ Q ⟨t,rfl,hQ1,hQ2⟩
 have hn:∀ v∈([.agg (tc t)]:List AV),zJV v:=fun v hv=>by
  simp only [List.mem_cons,List.not_mem_nil,or_false] at hv
  subst hv; exact zMK t
 have ht:∀ (s:ByteArray) (n:Int) (b:Bool),zJV (.tuple [zRJ s n,.bool b]):=fun s n b => .tuple fun x hx=>by
  simp only [List.mem_cons,List.not_mem_nil,or_false] at hx
  rcases hx with rfl | rfl
  ·exact zRT hG _ _
  ·exact .bool _
 cases hs:zRP t with
 | true =>
  refine zN1 hG hn (ht _ _ _) (fun Q hQ => ?_) (hQ1 hs)
  refine zKF (cuts:=[]) (zKM B w0 G) zMZ (fun lp hl _ Q a' σ' kk=>kk.elim) ((vc171 B w0 G t Q).mpr (zE2 (fun h1=>zE2 (fun h2 => ?_) (fun h2 => ?_)) (fun h1 => ?_)))
  ·unfold zRP at hs
   simp at h1 h2 hs
   omega
  ·rw [zMH]; exact hQ _
  ·rw [zMH]; exact hQ _
 | false =>
  refine zN1 hG hn (ht _ _ _) (fun Q hQ => ?_) (hQ2 hs)
  refine zKF (cuts:=[]) (zKM B w0 G) zMZ (fun lp hl _ Q a' σ' kk=>kk.elim) ((vc171 B w0 G t Q).mpr (zE2 (fun h1=>zE2 (fun h2 => ?_) (fun h2 => ?_)) (fun h1 => ?_)))
  ·exact hQ _
  ·unfold zRP at hs
   simp at h1 h2 hs
   omega
  ·unfold zRP at hs
   simp at h1 hs
   omega
theorem zVW:zJD (EV B w0 G) 145 C145:=by
 rintro args σ Q ⟨l,m,s,n,rfl,⟨hlen,hm⟩,hQ⟩
 refine zN1 hG (fun v hv => ?_) (.bool _) (fun Q hQ => ?_) hQ
 ·simp only [List.mem_cons,List.not_mem_nil,or_false] at hv
  rcases hv with rfl | rfl
  ·exact .slice hm fun x hx=>zV6 l x hx
  ·exact zRT hG _ _
 refine zKF (cuts:=[]) (zKM B w0 G) zMZ (fun lp hl _ Q a' σ kk => ?_) ((vc145 B w0 G l m s n Q).mpr ⟨⟨rfl,rfl,rfl,rfl,.refl _⟩,fun h σ'=>by rw [h] at hQ; exact hQ _,fun h σ'=>by rw [h] at hQ; exact hQ _⟩)
 change lp∈zKE Tryz.prog [] 145 at hl
 rw [zVL] at hl
 simp only [List.mem_cons,List.not_mem_nil,or_false] at hl
 subst hl
 obtain ⟨hat,hR1,hR2⟩:=kk
 refine zK5 (zVK l m s n) (x0:=0) (fun i hI => ?_) (fun i hI e a' σ hne kk => ?_) ⟨Nat.zero_le _,rfl⟩ hat
 ·obtain ⟨hi,hg⟩:i<=l.length/\zR9 (l.take i) s n=false:=hI
  refine zP3 zMZ (zKM B w0 G) (by kernel_rfl) ((vc145l B w0 G l m s n i).mpr (zE2 (fun h => ?_) (fun h=>⟨fun h2 => ?_,trivial⟩)))
  ·have h:=of_decide_eq_true h
   rw [zV0] at h
   have hi2:i<l.length:=by omega
   have hst:=zVS hi2 s n
   rw [hg,Bool.false_or] at hst
   refine ⟨⟨by omega,by rw [zV0]; omega⟩,l[i],by rw [Int.toNat_natCast,zV1 hi2]; rfl,zE2 (fun hp=>⟨zVT (i:=i+1) (by rw [hst]; exact hp),rfl,trivial⟩) (fun hp=>⟨i+1,⟨⟨hi2,by rw [hst]; exact hp⟩,?_⟩,rfl,rfl,?_,rfl,.refl _⟩)⟩
   ·show l.length - (i+1)<l.length - i
    omega
   ·rw [show ((i:Int)+1)=((i+1:Nat):Int) by omega,zN8 (by omega) (by omega)]
  ·have h:=of_decide_eq_false h
   rw [zV0] at h
   omega
 ·obtain ⟨hi,hg⟩:i<=l.length/\zR9 (l.take i) s n=false:=hI
  cases e with
  | exit j =>
   match j,kk with
   | 0,kk =>
    have hk:¬ i<l.length:=kk.1
    rw [show i=l.length by omega,List.take_length] at hg
    exact ⟨_,σ,(zJM kk.2).1,.refl _,hR1 hg σ⟩
  | ret=>exact ⟨_,σ,(zJM kk.2).1,.refl _,hR2 kk.1 σ⟩
  | normal=>exact absurd rfl hne
  | _=>exact kk.elim
theorem zVX:zJD (EV B w0 G) 168 C168:=by
 rintro args σ Q ⟨s,n,rfl,hQ⟩
 refine zN1 hG (fun v hv => ?_) (.bool _) (fun Q hQ => ?_) hQ
 ·simp only [List.mem_cons,List.not_mem_nil,or_false] at hv
  subst hv; exact zRT hG _ _
 exact zKF (cuts:=[]) (zKM B w0 G) (zJJ (zKM B w0 G) (zJI (c199_ok hG) (zJI (zVW hG) zJH))) (fun lp hl _ Q a' σ' kk=>kk.elim) ((vc168 B w0 G s n Q).mpr ⟨rfl,rfl,zR7++zVM,.nn,s,n,rfl,⟨by decide,by simp⟩,hQ _⟩)
theorem c170_ok:zJD (EV B w0 G) 170 C170:=by
 rintro args σ Q ⟨t,rfl,hQ⟩
 refine zN1 hG (fun v hv => ?_) (.int _ _) (fun Q hQ => ?_) hQ
 ·simp only [List.mem_cons,List.not_mem_nil,or_false] at hv
  subst hv; exact zMK t
 have hH:zIP (EV B w0 G) (hnd (EV B w0 G) zHI zMU [(171,C171),(169,C169),(200,C200),(145,C145),(168,C168)]):=zJJ (zKM B w0 G) (zJI (zVV hG) (zJI (zVU hG) (zJI (c200_ok hG) (zJI (zVW hG) (zJI (zVX hG) zJH)))))
 have hk:∀ k,zRA t=k->∀ σ',Q (iZ k) σ':=fun k h σ'=>by rw [<-h]; exact hQ σ'
 unfold zRA at hk
 refine zKF (cuts:=[]) (zKM B w0 G) hH (fun lp hl _ Q a' σ' kk=>kk.elim) ((vc170 B w0 G t Q).mpr ⟨t,rfl,fun hs=>⟨t,zR8,0,rfl,zE2 (fun h1 => ?_) (fun h1=>⟨t,bEq,2,rfl,zE2 (fun h2 => ?_) (fun h2=>⟨t,bIs,2,rfl,zE2 (fun h3 => ?_) (fun h3=>⟨rfl,rfl,zVM,.full,t.s,(t.l.length:Int),rfl,⟨by decide,by simp⟩,zE2 (fun h4 => ?_) (fun h4=>⟨t.s,(t.l.length:Int),rfl,zE2 (fun h5 => ?_) (fun h5 => ?_)⟩)⟩)⟩)⟩)⟩,fun hs => ?_⟩)
 all_goals
  unfold zRP at hs
  rw [hs] at hk
 ·rw [if_neg (by simp),if_pos (show isA t zR8=true from h1)] at hk; exact hk _ rfl _
 ·rw [if_neg (by simp),if_neg (show ¬ isA t zR8=true by rw [show isA t zR8=false from h1]; simp),if_pos (show isF t bEq 2=true from h2)] at hk; exact hk _ rfl _
 ·rw [if_neg (by simp),if_neg (show ¬ isA t zR8=true by rw [show isA t zR8=false from h1]; simp),if_neg (show ¬ isF t bEq 2=true by rw [show isF t bEq 2=false from h2]; simp),if_pos (show isF t bIs 2=true from h3)] at hk; exact hk _ rfl _
 ·rw [zVQ] at h4
  rw [if_neg (by simp),if_neg (show ¬ isA t zR8=true by rw [show isA t zR8=false from h1]; simp),if_neg (show ¬ isF t bEq 2=true by rw [show isF t bEq 2=false from h2]; simp),if_neg (show ¬ isF t bIs 2=true by rw [show isF t bIs 2=false from h3]; simp),if_pos h4] at hk; exact hk _ rfl _
 ·rw [zVQ] at h4
  rw [zVR] at h5
  unfold resS at h5
  rw [h4,Bool.false_or] at h5
  rw [if_neg (by simp),if_neg (show ¬ isA t zR8=true by rw [show isA t zR8=false from h1]; simp),if_neg (show ¬ isF t bEq 2=true by rw [show isF t bEq 2=false from h2]; simp),if_neg (show ¬ isF t bIs 2=true by rw [show isF t bIs 2=false from h3]; simp),if_neg (by rw [h4]; simp),if_pos h5] at hk; exact hk _ rfl _
 ·rw [zVQ] at h4
  rw [zVR] at h5
  unfold resS at h5
  rw [h4,Bool.false_or] at h5
  rw [if_neg (by simp),if_neg (show ¬ isA t zR8=true by rw [show isA t zR8=false from h1]; simp),if_neg (show ¬ isF t bEq 2=true by rw [show isF t bEq 2=false from h2]; simp),if_neg (show ¬ isF t bIs 2=true by rw [show isF t bIs 2=false from h3]; simp),if_neg (by rw [h4]; simp),if_neg (by rw [h5]; simp)] at hk; exact hk _ rfl _
 ·rw [if_pos rfl] at hk; exact hk _ rfl _
theorem zVY:zJD (EV B w0 G) 142 C142:=by
 rintro args σ Q ⟨t,rfl,hQ⟩
 refine zSL hG (fun v hv => ?_) (.tuple fun x hx => ?_) (fun Q hQ => ?_) hQ
 ·simp only [List.mem_cons,List.not_mem_nil,or_false] at hv
  subst hv; exact zMK t
 ·simp only [List.mem_cons,List.not_mem_nil,or_false] at hx
  rcases hx with rfl | rfl | rfl
  ·exact .int _ _
  ·exact .int _ _
  ·exact zMK _
 have hH:zIP (EV B w0 G) (hnd (EV B w0 G) zHI zMU [(169,C169),(170,C170)]):=zJJ (zKM B w0 G) (zJI (zVU hG) (zJI (c170_ok hG) zJH))
 have zero:zRC t=(0,0,Tz)->∀ σ',Q (.tuple [iZ 0,iZ 0,.agg [iZ 0,iZ 0,.str ⟨⟨[]⟩⟩,.nilslice]]) σ':=fun h σ'=>hQ _ _ (by
  rw [h]; exact Wk.tuple (.cons (.refl _) (.cons (.refl _) (.cons Wk.zero .nil))))
 have one:∀ (k p:Int) (x:T),zRC t=(k,p,x)->∀ σ',Q (.tuple [iZ k,iZ p,.agg (tc x)]) σ':=fun k p x h σ'=>hQ _ _ (by rw [h]; exact .refl _)
 refine zKF (cuts:=[]) (zKM B w0 G) hH (fun lp hl _ Q a' σ' kk=>kk.elim) ((vc142 B w0 G t Q).mpr ⟨t,bAt,2,rfl,zE2 (fun h1 => ?_) (fun h1=>⟨t,rfl,zE2 (fun h2 => ?_) (fun h2 => ?_)⟩)⟩)
 ·have h1:isF t bAt 2=true:=h1
  have hl:t.l.length=2:=by
   unfold isF at h1
   simp only [Bool.and_eq_true,decide_eq_true_eq] at h1
   omega
  have hg:zRC t=if t.l[1].k≠2\/t.l[1].n<0\/t.l[1].n > 15 then (0,0,Tz) else zRB t.l[0] t.l[1].n:=by
   unfold zRC
   rw [if_pos h1,List.getD_eq_getElem?_getD,List.getElem?_eq_getElem (by omega),List.getD_eq_getElem?_getD,List.getElem?_eq_getElem (by omega)]; rfl
  rw [zMH]
  have hr:((0:Int)<=1)/\((1:Int)<(t.l.length:Int)):=⟨by omega,by omega⟩
  refine ⟨hr,t.l[1],zNA (by omega),zE2 (fun h2 => ?_) (fun h2=>⟨hr,t.l[1],zNA (by omega),zE2 (fun h3 => ?_) (fun h3=>⟨hr,t.l[1],zNA (by omega),zE2 (fun h4 => ?_) (fun h4=>⟨hr,t.l[1],zNA (by omega),⟨by omega,by omega⟩,t.l[0],zNA (by omega),t.l[0],rfl,zE2 (fun h5 => ?_) (fun h5 => ?_)⟩)⟩)⟩)⟩
  ·exact zero (by rw [hg,if_pos (.inl (by simpa using h2))]) _
  ·exact zero (by rw [hg,if_pos (.inr (.inl (of_decide_eq_true h3)))]) _
  ·exact zero (by rw [hg,if_pos (.inr (.inr (of_decide_eq_true h4)))]) _
  all_goals
   have h2:t.l[1].k=2:=by simpa using h2
   have h3:=of_decide_eq_false h3
   have h4:=of_decide_eq_false h4
   rw [if_neg (fun h=>h.elim (fun h=>h h2) fun h=>h.elim h3 h4)] at hg
   unfold zRB at hg
  ·rw [if_pos (by simpa using h5)] at hg; exact zero hg _
  ·rw [if_neg (by simpa using h5)] at hg; exact one _ _ _ hg _
 all_goals
  have h1:isF t bAt 2=false:=h1
  have hg:zRC t=zRB t 0:=by unfold zRC; rw [if_neg (by rw [h1]; simp)]
  unfold zRB at hg
 ·rw [if_pos (by simpa using h2)] at hg; exact zero hg _
 ·rw [if_neg (by simpa using h2)] at hg; exact one _ _ _ hg _
end
end Go.V
