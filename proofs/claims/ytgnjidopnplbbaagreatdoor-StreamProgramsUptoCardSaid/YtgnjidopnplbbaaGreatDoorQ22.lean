/- A part of the proof of the statement S8 (texts brought together and shortened by a program of this work). -/
import Derived.Test.YtgnjidopnplbbaaGreatDoorQ20
import Derived.Test.YtgnjidopnplbbaaGreatDoorQ18
set_option maxRecDepth 1000000
set_option linter.unusedVariables false
namespace Go.V
open Go Go.Proofs
variable (B:Nat) (w0:World) (G:Nat->AV)
def zQT (id n:Nat) (k:Int) (σ:zA6):LS Nat where
 F i:=[(0,.v (.rslice id 0 n)),(1,.v (iZ k)),(5,.v (iZ (i:Int)))]
 FL _:=[]
 S _:=σ
 I i:=i<=n
 μ i:=n - i
 Ex _ e a σ':=match e with
  | .exit 0=>atF a [] [] (σ.Le σ')
  | .ret=>atF a [(4,.v (.bool true))] [] (σ.Le σ')
  | _=>False
def hAZ:zIB:=zIB.ofAs (fun x:OE=>zA5.cells x.cs 3 1 x.g) (fun n:Int=>iZ n)
def N149:zIE:=hAt [(4,2,hEl 3 1),(4,3,hAZ)]
theorem zQU:zKE Tryz.prog [] 149=[.loop (lB 149 0)]:=by kernel_rfl
theorem vc149l (id n:Nat) (k:Int) (σ:zA6) (i:Nat):(wpX [] (EV B w0 G) (H0 (EV B w0 G)) nL (zHI 149) N149 (lB 149 0) ((zQT id n k σ).post i) (frm [(0,.v (.rslice id 0 n)),(1,.v (iZ k)),(5,.v (iZ (i:Int)))] []) σ) =
 (bcase (decide ((i:Int)<(n:Int)))
 (∃ a0:OE,zA6.objs σ id=zA5.cells (OE.cs a0) 3 1 (OE.g a0)/\((0:Int)<=(i:Int)/\(i:Int)<(n:Int))/\∃ a1:OE,zA6.objs σ id=zA5.cells (OE.cs a1) 3 1 (OE.g a1)/\(((0+(Int.toNat (i:Int)))*1):Nat)<List.length (OE.cs a1)/\∃ x2:Int,List.getD (OE.cs a1) ((0+Int.toNat (↑i:Int))*1) AV.undef=iZ x2/\bcase ((x2:Int)==k)
 (Rf (TV.v (AV.bool true))/\zA6.Le σ σ)
 (∃ x'3:Nat,(LS.I (zQT id n k σ) x'3/\LS.μ (zQT id n k σ) x'3<LS.μ (zQT id n k σ) i)/\Rf (TV.v (AV.rslice id 0 n))/\Rf (TV.v (iZ k))/\TV.v (iZ (IntKind.wrap .i64 ((i:Int)+1)))=TV.v (iZ (x'3:Int))/\zA6.Le ((zQT id n k σ).3 x'3) σ))
 (zA6.Le σ σ)):=by kernel_rfl
def T149 (id n:Nat) (k:Int) (σ0:zA6):zFV:=fun _ Q a σ=>atF a ((zQT id n k σ0).F 0) [] (σ0.Le σ)/\(Q (.exit 0) (frm [] []) σ0/\Q .ret (frm [(4,.v (.bool true))] []) σ0)
theorem vc149 (id n:Nat) (k:Int) (σ:zA6) (Q:AV->zA6->Prop):(zKD [] (EV B w0 G) (H0 (EV B w0 G)) (T149 id n k σ) zHI N149 149 [.rslice id 0 n,iZ k] σ Q) =
 ((Rf (TV.v (AV.rslice id 0 n))/\Rf (TV.v (iZ k))/\Rf (TV.v (iZ 0))/\zA6.Le σ σ)/\Q (AV.bool false) σ/\Q (AV.bool true) σ):=by kernel_rfl
theorem vc149n (k:Int) (σ:zA6) (Q:AV->zA6->Prop):(zJ6 (EV B w0 G) (H0 (EV B w0 G)) (zJA (EV B w0 G) (H0 (EV B w0 G)) 149 none (zJ8 Tryz.prog 149) (zHI 149) zMV 3) zHI zMV 149 [.nilslice,iZ k] σ Q) =
 (Q (AV.bool false) σ):=by kernel_rfl
def zQV (acc:List T) (v:AV) (σ:zA6):Prop:=(v = .nilslice/\∀ x∈acc,x.k≠1) \/
 ∃ (id n:Nat) (l:List Int) (g:Bool),v = .rslice id 0 n/\0<n/\n<=acc.length/\l.length=n/\σ.objs id = .cells (zP9 l) 3 1 g/\∃ x∈acc,x.k=1
def C149:zJC:=fun args σ K=>∃ (v:AV) (k:Int) (acc:List T),args=[v,iZ k]/\(zQV acc v σ/\acc.length<=100000)/\(K (.bool false) σ/\((∃ x∈acc,x.k=1)->K (.bool true) σ))
def C128 (N:Nat):zJC:=fun args σ K=>∃ (t:T) (v:AV) (acc:List T),args=[.agg (tc t),v]/\(SizeOf.sizeOf t<N/\acc.length+(zPE t).length<=100000/\zQV acc v σ) /\
 ∀ (v':AV) (σ':zA6),zQV (acc++zPE t) v' σ'->K v' σ'
def H128 (E:Env) (N:Nat):zDY:=hnd E zHI zMU [(149,C149),(128,C128 N)]
structure zQW where
 σ:zA6
 v:AV
 i:Nat
def zQX (t:T) (I:zQW->Prop):LS zQW where
 F y:=[(1,.v y.v),(2,.l 2 0),(5,.v (iZ (y.i:Int)))]
 FL _:=[(2,tc t)]
 S y:=y.σ
 I:=I
 μ y:=t.l.length - y.i
 Ex y e a σ:=match e with
  | .exit 0=>¬ (y.i<t.l.length)/\atF a [(1,.v y.v)] [] (y.σ.Le σ)
  | _=>False
def N128:zIE:=hAt [(2,4,hEl 3 1),(6,3,hT)]
theorem zQY:zKE Tryz.prog [] 128=[.loop (lB 128 0)]:=by kernel_rfl
theorem vc128l (N:Nat) (t:T) (I:zQW->Prop) (y:zQW):(wpX [] (EV B w0 G) (H128 (EV B w0 G) N) nL (zHI 128) N128 (lB 128 0) ((zQX t I).post y) (frm [(1,.v y.v),(2,.l 2 0),(5,.v (iZ (y.i:Int)))] [(2,tc t)]) y.σ) =
 (bcase (decide ((zQW.i y:Int)<(List.length (tcellL (T.l t)):Int)))
 (((0:Int)<=(zQW.i y:Int)/\(zQW.i y:Int)<(List.length (tcellL (T.l t)):Int))/\∃ x0:T,AV.vptr (AV.cells (List.getD (tcellL (T.l t)) (Int.toNat (↑(zQW.i y):Int)) AV.undef))=AV.vptr (tc x0)/\∃ t1:T,∃ v2:AV,∃ acc3:List T,[AV.agg (tc x0),zQW.v y]=[AV.agg (tc t1),v2]/\(SizeOf.sizeOf t1<N/\(((List.length acc3)+(List.length (zPE t1))):Nat)<=100000/\((v2=AV.nilslice/\(∀ x4:T,((x4∈acc3)->(((T.k x4):Int)≠1))))\/∃ id4:Nat,∃ n5:Nat,∃ l6:List Int,∃ g7:Bool,v2=AV.rslice id4 0 n5/\(0:Nat)<n5/\n5<=List.length acc3/\List.length l6=n5/\zA6.objs y.1 id4=zA5.cells (zP9 l6) 3 1 g7/\∃ x8:T,x8∈acc3/\((T.k x8):Int)=1))/\(∀ v'4:AV,(∀ σ'5:zA6,(((v'4=AV.nilslice/\(∀ x6:T,((x6∈acc3++zPE t1)->(((T.k x6):Int)≠1))))\/∃ id6:Nat,∃ n7:Nat,∃ l8:List Int,∃ g9:Bool,v'4=AV.rslice id6 0 n7/\(0:Nat)<n7/\n7<=List.length (acc3++(zPE t1))/\List.length l8=n7/\zA6.objs σ'5 id6=zA5.cells (zP9 l8) 3 1 g9/\∃ x10:T,x10∈acc3++zPE t1/\((T.k x10):Int)=1)->(∃ x'6:zQW,(I x'6/\LS.μ (zQX t I) x'6<LS.μ (zQX t I) y)/\TV.v v'4=TV.v (zQW.v x'6)/\Rf (TV.l 2 0)/\TV.v (iZ (IntKind.wrap .i64 ((zQW.i y:Int)+1)))=TV.v (iZ (zQW.i x'6:Int))/\Rf (tc t)/\zA6.Le ((zQX t I).3 x'6) σ'5)))))
 (((zQW.i y<List.length (T.l t))->False)/\Rf (TV.v (zQW.v y))/\zA6.Le y.1 y.1)):=by kernel_rfl
def T128 (t:T) (I R:zQW->Prop):zFV:=fun _ Q a σ=>∃ y:zQW,I y/\atF a ((zQX t I).F y) [(2,tc t)] (y.σ.Le σ)/\∀ y':zQW,R y'->Q (.exit 0) (frm [(1,.v y'.v)] []) y'.σ
theorem vc128n (N:Nat) (t:T) (I R:zQW->Prop) (σ:zA6) (Q:AV->zA6->Prop):(zKD [] (EV B w0 G) (H128 (EV B w0 G) N) (T128 t I R) zHI N128 128 [.agg (tc t),.nilslice] σ Q) =
 (bcase (((T.k t):Int)==1)
 (∃ v0:AV,∃ k1:Int,∃ acc2:List T,[AV.nilslice,iZ (T.n t)]=[v0,iZ k1]/\(((v0=AV.nilslice/\(∀ x3:T,((x3∈acc2)->(((T.k x3):Int)≠1))))\/∃ id3:Nat,∃ n4:Nat,∃ l5:List Int,∃ g6:Bool,v0=AV.rslice id3 0 n4/\(0:Nat)<n4/\n4<=List.length acc2/\List.length l5=n4/\zA6.objs σ id3=zA5.cells (zP9 l5) 3 1 g6/\∃ x7:T,x7∈acc2/\((T.k x7):Int)=1)/\List.length acc2<=100000)/\(Bd0 8 1/\∃ y3:zQW,I y3/\(TV.v (AV.rslice (zA6.next σ) 0 1)=TV.v (zQW.v y3)/\Rf (TV.l 2 0)/\TV.v (iZ 0)=TV.v (iZ (zQW.i y3:Int))/\Rf (tc t)/\zA6.Le y3.1 (zA6.new σ (zA5.cells [iZ (T.n t)] 3 1 true)))/\(∀ y'4:zQW,((R y'4)->(Q (zQW.v y'4) y'4.1))))/\((∃ x3:T,x3∈acc2/\((T.k x3):Int)=1)->(∃ y3:zQW,I y3/\(TV.v AV.nilslice=TV.v (zQW.v y3)/\Rf (TV.l 2 0)/\TV.v (iZ 0)=TV.v (iZ (zQW.i y3:Int))/\Rf (tc t)/\zA6.Le y3.1 σ)/\(∀ y'4:zQW,((R y'4)->(Q (zQW.v y'4) y'4.1))))))
 (∃ y0:zQW,I y0/\(TV.v AV.nilslice=TV.v (zQW.v y0)/\Rf (TV.l 2 0)/\TV.v (iZ 0)=TV.v (iZ (zQW.i y0:Int))/\Rf (tc t)/\zA6.Le y0.1 σ)/\(∀ y'1:zQW,((R y'1)->(Q (zQW.v y'1) y'1.1))))):=by kernel_rfl
theorem vc128r (N:Nat) (t:T) (id n:Nat) (I R:zQW->Prop) (σ:zA6) (Q:AV->zA6->Prop):(zKD [] (EV B w0 G) (H128 (EV B w0 G) N) (T128 t I R) zHI N128 128 [.agg (tc t),.rslice id 0 n] σ Q) =
 (bcase (((T.k t):Int)==1)
 (∃ v0:AV,∃ k1:Int,∃ acc2:List T,[AV.rslice id 0 n,iZ (T.n t)]=[v0,iZ k1]/\(((v0=AV.nilslice/\(∀ x3:T,((x3∈acc2)->(((T.k x3):Int)≠1))))\/∃ id3:Nat,∃ n4:Nat,∃ l5:List Int,∃ g6:Bool,v0=AV.rslice id3 0 n4/\(0:Nat)<n4/\n4<=List.length acc2/\List.length l5=n4/\zA6.objs σ id3=zA5.cells (zP9 l5) 3 1 g6/\∃ x7:T,x7∈acc2/\((T.k x7):Int)=1)/\List.length acc2<=100000)/\(∃ a3:OE,zA6.objs σ id=zA5.cells (OE.cs a3) 3 1 (OE.g a3)/\((0:Nat)=0/\Bd (n+1) 8/\((n*1):Nat)<=List.length (OE.cs a3))/\∃ y4:zQW,I y4/\(TV.v (AV.rslice (zA6.next σ) 0 (n+1))=TV.v (zQW.v y4)/\Rf (TV.l 2 0)/\TV.v (iZ 0)=TV.v (iZ (zQW.i y4:Int))/\Rf (tc t)/\zA6.Le y4.1 (zA6.new (zA6.set σ id zA5.dead) (zA5.cells ((List.take (n*1) (OE.cs a3))++[iZ (T.n t)]) 3 1 true)))/\(∀ y'5:zQW,((R y'5)->(Q (zQW.v y'5) y'5.1))))/\((∃ x3:T,x3∈acc2/\((T.k x3):Int)=1)->(∃ y3:zQW,I y3/\(TV.v (AV.rslice id 0 n)=TV.v (zQW.v y3)/\Rf (TV.l 2 0)/\TV.v (iZ 0)=TV.v (iZ (zQW.i y3:Int))/\Rf (tc t)/\zA6.Le y3.1 σ)/\(∀ y'4:zQW,((R y'4)->(Q (zQW.v y'4) y'4.1))))))
 (∃ y0:zQW,I y0/\(TV.v (AV.rslice id 0 n)=TV.v (zQW.v y0)/\Rf (TV.l 2 0)/\TV.v (iZ 0)=TV.v (iZ (zQW.i y0:Int))/\Rf (tc t)/\zA6.Le y0.1 σ)/\(∀ y'1:zQW,((R y'1)->(Q (zQW.v y'1) y'1.1))))):=by kernel_rfl
end Go.V
set_option linter.unusedSimpArgs false
set_option linter.unusedSectionVars false
namespace Go.V
open Go Go.Proofs

theorem zQV.skip {acc:List T} {v:AV} {σ:zA6} {t:T} (h:zQV acc v σ) (hk:t.k=1->∃ x∈acc,x.k=1):zQV (acc++[t]) v σ:=by
 rcases h with ⟨rfl,h1⟩ | ⟨id,n,l,g,rfl,h1,h2,h3,h4,x,hx,h5⟩
 ·refine .inl ⟨rfl,fun x hx => ?_⟩
  rcases List.mem_append.1 hx with hx | hx
  ·exact h1 x hx
  ·obtain rfl:x=t:=by simpa using hx
   intro e
   obtain ⟨y,hy,hy1⟩:=hk e
   exact h1 y hy hy1
 ·exact .inr ⟨id,n,l,g,rfl,h1,by rw [List.length_append]; omega,h3,h4,x,List.mem_append_left _ hx,h5⟩

section
variable {B:Nat} {w0:World} {G:Nat->AV}
theorem c149_ok:zJD (EV B w0 G) 149 C149:=by
 rintro args σ Q ⟨v,k,acc,rfl,⟨hv,hb⟩,hQ1,hQ2⟩
 rcases hv with ⟨rfl,_⟩ | ⟨id,n,l,g,rfl,h1,h2,h3,h4,hx⟩
 ·exact zJ9 (zKM B w0 G) zQ7 (fun lp hl hc Q a σ kk=>zJB zQ7 (zKM B w0 G) 149 3 lp hc Q a σ kk) ((vc149n B w0 G k σ Q).mpr hQ1)
 refine zKF (cuts:=[]) (zKM B w0 G) zQ7 (fun lp hl _ Q a' σ' kk => ?_) ((vc149 B w0 G id n k σ Q).mpr ⟨⟨rfl,rfl,rfl,.refl _⟩,hQ1,hQ2 hx⟩)
 change lp∈zKE Tryz.prog [] 149 at hl
 rw [zQU] at hl
 simp only [List.mem_cons,List.not_mem_nil,or_false] at hl
 subst hl
 obtain ⟨hat,hR1,hR2⟩:=kk
 refine zK5 (zQT id n k σ) (x0:=0) (fun i hI => ?_) (fun i hI e a' σ' hne kk => ?_) (Nat.zero_le _) hat
 ·have hi:i<=n:=hI
  show AWp _ _ _ _ _ (frm [(0,.v (.rslice id 0 n)),(1,.v (iZ k)),(5,.v (iZ (i:Int)))] []) σ
  refine zP3 zQ7 (zKM B w0 G) (by kernel_rfl) ((vc149l B w0 G id n k σ i).mpr (zE2 (fun h => ?_) (fun h => .refl _)))
  have h:=of_decide_eq_true h
  have hk:i<l.length:=by omega
  have w1:IntKind.wrap .i64 ((i:Int)+1)=((i+1:Nat):Int):=by rw [zN8 (by omega) (by omega)]; omega
  have hz:(zP9 l).getD i .undef=iZ l[i]:=by unfold zP9; rw [List.getD,List.getElem?_map,List.getElem?_eq_getElem hk]; rfl
  refine ⟨⟨zP9 l,g⟩,h4,⟨by omega,h⟩,⟨zP9 l,g⟩,h4,by rw [idx1]; show i<(zP9 l).length; rw [zPA]; exact hk,l[i],by rw [idx1]; exact hz,zE2 (fun _=>⟨rfl,.refl _⟩) (fun _=>⟨i+1,⟨by show i+1<=n; omega,by show n - (i+1)<n - i; omega⟩,rfl,rfl,by rw [w1],.refl _⟩)⟩
 ·cases e with
  | exit j =>
   match j,kk with
   | 0,kk =>
    have kk:atF a' [] [] (σ.Le σ'):=kk
    exact ⟨_,_,(zJM kk).1,(zJM kk).2,hR1⟩
  | ret =>
   have kk:atF a' [(4,.v (.bool true))] [] (σ.Le σ'):=kk
   exact ⟨_,_,(zJM kk).1,(zJM kk).2,hR2⟩
  | normal=>exact absurd rfl hne
  | _=>exact kk.elim

theorem zQZ:∀ N,zJD (EV B w0 G) 128 (C128 N)
 | 0=>by
  rintro args σ Q ⟨t,v,acc,rfl,⟨hN,_⟩,_⟩
  omega
 | N+1=>by
  rintro args σ Q ⟨t,v,acc,rfl,⟨hN,hb,hS⟩,hQ⟩
  have hH:zIP (EV B w0 G) (H128 (EV B w0 G) N):=zJJ (zKM B w0 G) (zJI c149_ok (zJI (zQZ N) zJH))
  have hb2:acc.length+1+(nodesTL t.l).length<=100000:=by rw [zPJ,List.length_cons] at hb; omega
  have hlen:=zPO t.l
  let I:zQW->Prop:=fun y=>y.i<=t.l.length/\zQV (acc++[t]++nodesTL (t.l.take y.i)) y.v y.σ
  let R:zQW->Prop:=fun y=>zQV (acc++zPE t) y.v y.σ
  have I0:∀ (v':AV) (σ':zA6),zQV (acc++[t]) v' σ'->I ⟨σ',v',0⟩:=fun v' σ' h=>⟨Nat.zero_le _,by
   show zQV (acc++[t]++nodesTL (t.l.take 0)) v' σ'
   rw [List.take_zero,nodesTL,List.append_nil]; exact h⟩
  have loops:∀ lp∈zKE Tryz.prog [] 128,∀ (Q:zDW) (a':zDN) (σ:zA6),T128 t I R lp Q a' σ->AWp (EV B w0 G) none (zJ8 Tryz.prog 128) lp Q a' σ:=by
   intro lp hl Q a' σ kk
   rw [zQY] at hl
   simp only [List.mem_cons,List.not_mem_nil,or_false] at hl
   subst hl
   obtain ⟨y0,hI0,hat,hR⟩:=kk
   refine zK5 (zQX t I) (x0:=y0) (fun y hI => ?_) (fun y hI e a' σ hne kk => ?_) hI0 hat
   ·obtain ⟨hi,hSy⟩:I y:=hI
    show AWp _ _ _ _ _ (frm [(1,.v y.v),(2,.l 2 0),(5,.v (iZ (y.i:Int)))] [(2,tc t)]) y.σ
    refine zP3 hH (zKM B w0 G) (by kernel_rfl) ((vc128l B w0 G N t I y).mpr (zE2 (fun h => ?_) (fun h=>⟨fun h2 => ?_,rfl,.refl _⟩)))
    ·have h:=of_decide_eq_true h
     have hk:y.i<t.l.length:=by rw [zMH] at h; omega
     have w1:IntKind.wrap .i64 ((y.i:Int)+1)=((y.i+1:Nat):Int):=by rw [zN8 (by omega) (by omega)]; omega
     have hle:=zPM t.l (y.i+1)
     rw [zPL hk,List.length_append] at hle
     refine ⟨⟨by omega,h⟩,t.l[y.i],by rw [Int.toNat_natCast]; exact zNA hk,t.l[y.i],y.v,acc++[t]++nodesTL (t.l.take y.i),rfl,⟨?_,?_,hSy⟩,fun v' σ' hS'=>⟨⟨σ',v',y.i+1⟩,⟨⟨hk,?_⟩,?_⟩,rfl,rfl,?_,rfl,.refl _⟩⟩
     ·have:=T.sizeOf_mem (List.getElem_mem hk); omega
     ·simp only [List.length_append,List.length_cons,List.length_nil]; omega
     ·show zQV (acc++[t]++nodesTL (t.l.take (y.i+1))) v' σ'
      rw [zPL hk,<-List.append_assoc]; exact hS'
     ·show t.l.length - (y.i+1)<t.l.length - y.i
      omega
     ·show TV.v (iZ _)=TV.v (iZ ((y.i+1:Nat):Int))
      rw [w1]
    ·have h:=of_decide_eq_false h
     rw [zMH] at h; omega
   ·obtain ⟨hi,hSy⟩:I y:=hI
    cases e with
    | exit j =>
     match j,kk with
     | 0,kk =>
      have hk:¬ y.i<t.l.length:=kk.1
      refine ⟨_,_,(zJM kk.2).1,(zJM kk.2).2,hR y ?_⟩
      rw [show y.i=t.l.length by omega,List.take_length,List.append_assoc] at hSy
      show zQV (acc++zPE t) y.v y.σ
      rw [zPJ]; exact hSy
    | normal=>exact absurd rfl hne
    | _=>exact kk.elim
  rcases hS with ⟨rfl,h1⟩ | ⟨id,n,l,g,rfl,h1,h2,h3,h4,hx⟩
  ·refine zKF (cuts:=[]) (zKM B w0 G) hH (fun lp hl _ Q a' σ kk=>loops lp hl Q a' σ kk) ((vc128n B w0 G N t I R σ Q).mpr (zE2 (fun hk => ?_) (fun hk => ?_)))
   ·have hk:t.k=1:=by simpa using hk
    refine ⟨.nilslice,t.n,acc,rfl,⟨.inl ⟨rfl,h1⟩,by omega⟩,⟨⟨by omega,by omega⟩,⟨σ.new (.cells [iZ t.n] 3 1 true),.rslice σ.next 0 1,0⟩,I0 _ _ ?_,⟨rfl,rfl,rfl,rfl,.refl _⟩,fun y' hy=>hQ _ _ hy⟩,fun ⟨x,hx,hx1⟩=>absurd hx1 (h1 x hx)⟩
    exact .inr ⟨σ.next,1,[t.n],true,rfl,Nat.zero_lt_one,by simp,rfl,if_pos rfl,t,by simp,hk⟩
   ·have hk:t.k≠1:=fun e=>by rw [e] at hk; simp at hk
    exact ⟨⟨σ,.nilslice,0⟩,I0 _ _ (zQV.skip (.inl ⟨rfl,h1⟩) fun e=>absurd e hk),⟨rfl,rfl,rfl,rfl,.refl _⟩,fun y' hy=>hQ _ _ hy⟩
  ·have hold:zQV acc (.rslice id 0 n) σ:=.inr ⟨id,n,l,g,rfl,h1,h2,h3,h4,hx⟩
   have hl:(zP9 l).length=n:=by rw [zPA]; exact h3
   refine zKF (cuts:=[]) (zKM B w0 G) hH (fun lp hl _ Q a' σ kk=>loops lp hl Q a' σ kk) ((vc128r B w0 G N t id n I R σ Q).mpr (zE2 (fun hk => ?_) (fun hk => ?_)))
   ·have hk:t.k=1:=by simpa using hk
    refine ⟨.rslice id 0 n,t.n,acc,rfl,⟨hold,by omega⟩,⟨⟨zP9 l,g⟩,h4,⟨rfl,⟨by omega,by omega⟩,by show n*1<=(zP9 l).length; omega⟩,⟨(σ.set id .dead).new (.cells ((zP9 l).take (n*1)++[iZ t.n]) 3 1 true),.rslice σ.next 0 (n+1),0⟩,I0 _ _ ?_,⟨rfl,rfl,rfl,rfl,.refl _⟩,fun y' hy=>hQ _ _ hy⟩,
     fun _=>⟨⟨σ,.rslice id 0 n,0⟩,I0 _ _ (hold.skip fun _=>hx),⟨rfl,rfl,rfl,rfl,.refl _⟩,fun y' hy=>hQ _ _ hy⟩⟩
    refine .inr ⟨σ.next,n+1,l++[t.n],true,rfl,by omega,by rw [List.length_append]; simp; omega,by rw [List.length_append,h3]; rfl,?_,t,by simp,hk⟩
    have e:(zP9 l).take (n*1)++[iZ t.n]=zP9 (l++[t.n]):=by
     rw [Nat.mul_one,<-hl,List.take_length]
     unfold zP9; rw [List.map_append]; rfl
    rw [<-e]
    exact if_pos rfl
   ·have hk:t.k≠1:=fun e=>by rw [e] at hk; simp at hk
    exact ⟨⟨σ,.rslice id 0 n,0⟩,I0 _ _ (hold.skip fun e=>absurd e hk),⟨rfl,rfl,rfl,rfl,.refl _⟩,fun y' hy=>hQ _ _ hy⟩
end
end Go.V
