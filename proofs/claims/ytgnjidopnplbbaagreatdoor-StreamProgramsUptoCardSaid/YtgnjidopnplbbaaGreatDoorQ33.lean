/- A part of the proof of the statement S8 (texts brought together and shortened by a program of this work). -/
import Derived.Test.YtgnjidopnplbbaaGreatDoorQ32
set_option maxRecDepth 1000000
set_option linter.unusedVariables false
set_option linter.unusedSimpArgs false
set_option linter.unusedSectionVars false
namespace Go.V
open Go Go.Proofs

def C77:zJC:=fun args σ K=>∃ s:ByteArray,args=[.str s]/\K (.agg (tc (.mk 3 0 s []))) σ.untok
def C118:zJC:=fun args σ K=>args=[]/\K (.agg (tc zYQ)) σ.untok
def C114:zJC:=fun args σ K=>∃ a b:T,args=[.agg (tc a),.agg (tc b)]/\K (.agg (tc (zYR a b))) σ.untok
def C115:zJC:=fun args σ K=>∃ a b:T,args=[.agg (tc a),.agg (tc b)]/\K (.agg (tc (eqN a b))) σ.untok
def C79:zJC:=fun args σ K=>∃ l:List T,args=[slV l]/\K (.agg (tc (zYS l))) σ.untok
theorem Wk.tcNil (k n:Int) (s:ByteArray):Wk (.agg [iZ k,iZ n,.str s,.nilslice]) (.agg (tc (.mk k n s []))) :=
 Wk.agg (.cons (.refl _) (.cons (.refl _) (.cons (.refl _) (.cons (Wk.nil 4) .nil))))
theorem Wk.tcSl (k n:Int) (s:ByteArray) (l:List T) (m:Cap):Wk (.agg [iZ k,iZ n,.str s,.slice 4 (tcellL l) m]) (.agg (tc (.mk k n s l))) :=
 Wk.agg (.cons (.refl _) (.cons (.refl _) (.cons (.refl _) (.cons (Wk.slice _ _ _) .nil))))
section
variable {B:Nat} {w0:World} {G:Nat->AV}
variable (hG:∀ i,zJV (G i))
include hG
theorem zZ6:zJD (EV B w0 G) 78 C78:=by
 rintro args σ Q ⟨k,rfl,hQ⟩
 refine zSL hG (fun v hv => ?_) (zMK _) (fun Q hQ => ?_) hQ
 ·simp only [List.mem_cons,List.not_mem_nil,or_false] at hv
  subst hv; exact .int _ _
 exact zKF (cuts:=[]) (zKM B w0 G) zMZ (fun lp hl _ Q a' σ' kk=>kk.elim) ((vc78 B w0 G k Q).mpr (hQ _ _ (Wk.tcNil _ _ _)))
theorem c120_ok:zJD (EV B w0 G) 120 C78:=by
 rintro args σ Q ⟨k,rfl,hQ⟩
 refine zSL hG (fun v hv => ?_) (zMK _) (fun Q hQ => ?_) hQ
 ·simp only [List.mem_cons,List.not_mem_nil,or_false] at hv
  subst hv; exact .int _ _
 exact zKF (cuts:=[]) (zKM B w0 G) zMZ (fun lp hl _ Q a' σ' kk=>kk.elim) ((vc120 B w0 G k Q).mpr (hQ _ _ (Wk.tcNil _ _ _)))
theorem c77_ok:zJD (EV B w0 G) 77 C77:=by
 rintro args σ Q ⟨s,rfl,hQ⟩
 refine zSL hG (fun v hv => ?_) (zMK _) (fun Q hQ => ?_) hQ
 ·simp only [List.mem_cons,List.not_mem_nil,or_false] at hv
  subst hv; exact .str _
 exact zKF (cuts:=[]) (zKM B w0 G) zMZ (fun lp hl _ Q a' σ' kk=>kk.elim) ((vc77 B w0 G s Q).mpr (hQ _ _ (Wk.tcNil _ _ _)))
theorem c118_ok:zJD (EV B w0 G) 118 C118:=by
 rintro args σ Q ⟨rfl,hQ⟩
 refine zSL hG (fun v hv=>by cases hv) (zMK _) (fun Q hQ => ?_) hQ
 exact zKF (cuts:=[]) (zKM B w0 G) zMZ (fun lp hl _ Q a' σ' kk=>kk.elim) ((vc118 B w0 G Q).mpr (hQ _ _ (Wk.tcNil _ _ _)))
omit hG in
theorem zZ7 (a b:T):∀ v∈([.agg (tc a),.agg (tc b)]:List AV),zJV v:=fun v hv=>by
 simp only [List.mem_cons,List.not_mem_nil,or_false] at hv
 rcases hv with rfl | rfl <;> exact zMK _
omit hG in
theorem zZ8 (t:T):zME t = .agg (tc t):=by cases t; rw [zME]; rfl
omit hG in
theorem zZ9 (a b:T):tcellL [a,b]=[.agg (tc a),.agg (tc b)]:=by
 rw [tcellL,tcellL,tcellL,zZ8,zZ8]
theorem c114_ok:zJD (EV B w0 G) 114 C114:=by
 rintro args σ Q ⟨a,b,rfl,hQ⟩
 refine zSL hG (zZ7 a b) (zMK _) (fun Q hQ => ?_) hQ
 refine zKF (cuts:=[]) (zKM B w0 G) zMZ (fun lp hl _ Q a' σ' kk=>kk.elim) ((vc114 B w0 G a b Q).mpr (hQ _ _ ?_))
 have:=Wk.tcSl 5 0 ⟨⟨[46]⟩⟩ [a,b] .full
 rw [zZ9] at this
 exact this
theorem c115_ok:zJD (EV B w0 G) 115 C115:=by
 rintro args σ Q ⟨a,b,rfl,hQ⟩
 refine zSL hG (zZ7 a b) (zMK _) (fun Q hQ => ?_) hQ
 refine zKF (cuts:=[]) (zKM B w0 G) zMZ (fun lp hl _ Q a' σ' kk=>kk.elim) ((vc115 B w0 G a b Q).mpr (hQ _ _ ?_))
 have:=Wk.tcSl 5 0 ⟨⟨[61]⟩⟩ [a,b] .full
 rw [zZ9] at this
 exact this
theorem c79_ok:zJD (EV B w0 G) 79 C79:=by
 rintro args σ Q ⟨l,rfl,hQ⟩
 refine zSL hG (fun v hv => ?_) (zMK _) (fun Q hQ => ?_) hQ
 ·simp only [List.mem_cons,List.not_mem_nil,or_false] at hv
  subst hv; exact zQI l
 exact zKF (cuts:=[]) (zKM B w0 G) zMZ (fun lp hl _ Q a' σ' kk=>kk.elim) ((vc79 B w0 G l Q).mpr (hQ _ _ (Wk.tcSl _ _ _ _ _)))
theorem c119_ok:zJD (EV B w0 G) 119 C79:=by
 rintro args σ Q ⟨l,rfl,hQ⟩
 refine zSL hG (fun v hv => ?_) (zMK _) (fun Q hQ => ?_) hQ
 ·simp only [List.mem_cons,List.not_mem_nil,or_false] at hv
  subst hv; exact zQI l
 exact zKF (cuts:=[]) (zKM B w0 G) zMZ (fun lp hl _ Q a' σ' kk=>kk.elim) ((vc119 B w0 G l Q).mpr (hQ _ _ (Wk.tcSl _ _ _ _ _)))
end
end Go.V
namespace Go.V
open Go Go.Proofs
variable (B:Nat) (w0:World) (G:Nat->AV)
structure Y76 where
 k:Int
 n:Int
 s:ByteArray
 xs:List AV
 m:Cap
 j:Nat
def zZA:List AV:=[iZ 0,iZ 0,.str ⟨⟨[]⟩⟩,.nilslice]
def zZB:List T->T->List AV
 | [],e=>tc e
 | x :: l,e=>[iZ 5,iZ 0,.str ⟨⟨[46]⟩⟩,.slice 4 [.agg (tc x),.agg (zZB l e)] .full]
def zZC:List T->T->T
 | [],e=>e
 | x :: l,e=>zYR x (zZC l e)
def C76:zJC:=fun args σ K=>∃ (l:List T) (e:T),args=[slV l,.agg (tc e)]/\(l.length<=1000000/\K (.agg (tc (zZC l e))) σ.untok)
def ls76 (l:List T) (I:Y76->Prop):LS Y76 where
 F y:=[(0,.v (slV l)),(3,.l 3 0),(4,.l 4 0),(5,.v (iZ ((y.j:Int) - 1)))]
 FL y:=[(3,[iZ y.k,iZ y.n,.str y.s,.slice 4 y.xs y.m]),(4,zZA)]
 S _:=zJZ
 I:=I
 μ y:=y.j
 Ex y e a σ:=match e with
  | .exit 0=>y.j=0/\atF a [(3,.l 3 0),(4,.l 4 0)] [(3,[iZ y.k,iZ y.n,.str y.s,.slice 4 y.xs y.m]),(4,zZA)] True
  | _=>False
theorem zZD:zKE Tryz.prog [] 76=[.loop (lB 76 0)]:=by kernel_rfl
theorem vc76l (l:List T) (I:Y76->Prop) (k n:Int) (s:ByteArray) (xs:List AV) (m:Cap) (j:Nat):(wpX [] (EV B w0 G) (H0 (EV B w0 G)) nL (zHI 76) (hAt [(4,2,hT)]) (lB 76 0) ((ls76 l I).post ⟨k,n,s,xs,m,j⟩) (frm ((ls76 l I).F ⟨k,n,s,xs,m,j⟩) ((ls76 l I).FL ⟨k,n,s,xs,m,j⟩)) zJZ) =
 (bcase (decide ((((j:Int) - 1):Int) ≥ 0))
 (((0:Int)<=((j:Int) - 1)/\(((j:Int) - 1):Int)<(List.length (tcellL l):Int))/\∃ x0:T,AV.vptr (AV.cells (List.getD (tcellL l) (Int.toNat ((↑j:Int) - 1)) AV.undef))=AV.vptr (tc x0)/\∃ x'1:Y76,(I x'1/\LS.μ (ls76 l I) x'1<LS.μ (ls76 l I) (Y76.mk k n s xs m j))/\Rf (TV.v (sT l))/\Rf (TV.l 3 0)/\Rf (TV.l 4 0)/\TV.v (iZ (IntKind.wrap .i64 (((j:Int) - 1) - 1)))=TV.v (iZ ((Y76.j x'1:Int) - 1))/\[iZ 5,iZ 0,AV.str ⟨⟨[46]⟩⟩,AV.slice 4 [AV.agg (tc x0),AV.agg [iZ k,iZ n,AV.str s,AV.slice 4 xs m]] Cap.full]=[iZ (Y76.k x'1),iZ (Y76.n x'1),AV.str (Y76.s x'1),AV.slice 4 (Y76.xs x'1) (Y76.m x'1)]/\Rf [iZ 0,iZ 0,AV.str ⟨⟨[]⟩⟩,AV.nilslice]/\zA6.Le ((ls76 l I).3 x'1) zJZ)
 (j=0/\Rf (TV.l 3 0)/\Rf (TV.l 4 0)/\Rf [iZ k,iZ n,AV.str s,AV.slice 4 xs m]/\Rf [iZ 0,iZ 0,AV.str ⟨⟨[]⟩⟩,AV.nilslice]/\True)):=by kernel_rfl
def T76 (l:List T) (I R:Y76->Prop):zFV:=fun _ Q a σ=>∃ y:Y76,I y/\atF a ((ls76 l I).F y) ((ls76 l I).FL y) (zJZ.Le σ)/\∀ y':Y76,R y'->∀ σ':zA6,Q (.exit 0) (frm [(3,.l 3 0),(4,.l 4 0)] [(3,[iZ y'.k,iZ y'.n,.str y'.s,.slice 4 y'.xs y'.m]),(4,zZA)]) σ'
theorem vc76 (l:List T) (e:T) (I R:Y76->Prop) (Q:AV->zA6->Prop):(zKD [] (EV B w0 G) (H0 (EV B w0 G)) (T76 l I R) zHI zMV 76 [slV l,.agg (tc e)] zJZ Q) =
 (∃ y0:Y76,I y0/\(Rf (TV.v (sT l))/\Rf (TV.l 3 0)/\Rf (TV.l 4 0)/\TV.v (iZ (IntKind.wrap .i64 ((List.length (tcellL l):Int) - 1)))=TV.v (iZ ((Y76.j y0:Int) - 1))/\tc e=[iZ (Y76.k y0),iZ (Y76.n y0),AV.str (Y76.s y0),AV.slice 4 (Y76.xs y0) (Y76.m y0)]/\Rf [iZ 0,iZ 0,AV.str ⟨⟨[]⟩⟩,AV.nilslice]/\zA6.Le zJZ zJZ)/\(∀ y'1:Y76,((R y'1)->(∀ σ'2:zA6,Q (AV.agg [iZ (Y76.k y'1),iZ (Y76.n y'1),AV.str (Y76.s y'1),AV.slice 4 (Y76.xs y'1) (Y76.m y'1)]) σ'2)))):=by kernel_rfl
end Go.V
namespace Go.V
open Go Go.Proofs

theorem zZE:∀ (l:List T) (e:T),Wk (.agg (zZB l e)) (.agg (tc (zZC l e)))
 | [],e => .refl _
 | x :: l,e=>by
  have ih:=zZE l e
  rw [zZB,zZC]
  have h:WkL (zA0 [.agg (tc x),.agg (zZB l e)]) (zA0 [.agg (tc x),.agg (tc (zZC l e))]):=by
   have hw:WkL (zZB l e) (tc (zZC l e)):=by
    clear ih
    induction l with
    | nil=>exact WkL.refl _
    | cons y l ih2 =>
     rw [zZB,zZC]
     exact .cons (.refl _) (.cons (.refl _) (.cons (.refl _) (.cons (by
      have h2:WkL (zA0 [.agg (tc y),.agg (zZB l e)]) (zA0 [.agg (tc y),.agg (tc (zZC l e))]):=by
       show WkL (tc y++(zZB l e++[])) (tc y++(tc (zZC l e)++[]))
       rw [List.append_nil,List.append_nil]
       exact WkL.append (WkL.refl _) ih2
      have:=Wk.sliceL (sz:=4) (m:=.full) (xs:=[.agg (tc y),.agg (zZB l e)]) (ys:=[.agg (tc y),.agg (tc (zZC l e))]) rfl h2 (fun z hz=>by
       simp only [List.mem_cons,List.not_mem_nil,or_false] at hz
       rcases hz with rfl | rfl <;> rfl) rfl
      rw [<-zZ9] at this
      exact this) .nil)))
   show WkL (tc x++(zZB l e++[])) (tc x++(tc (zZC l e)++[]))
   rw [List.append_nil,List.append_nil]
   exact WkL.append (WkL.refl _) hw
  refine Wk.agg (.cons (.refl _) (.cons (.refl _) (.cons (.refl _) (.cons ?_ .nil))))
  have:=Wk.sliceL (sz:=4) (m:=.full) (xs:=[.agg (tc x),.agg (zZB l e)]) (ys:=[.agg (tc x),.agg (tc (zZC l e))]) rfl h (fun z hz=>by
   simp only [List.mem_cons,List.not_mem_nil,or_false] at hz
   rcases hz with rfl | rfl <;> rfl) rfl
  rw [<-zZ9] at this
  exact this
section
variable {B:Nat} {w0:World} {G:Nat->AV}
variable (hG:∀ i,zJV (G i))
include hG
theorem c76_ok:zJD (EV B w0 G) 76 C76:=by
 rintro args σ Q ⟨l,e,rfl,hlen,hQ⟩
 refine zSL hG (fun v hv => ?_) (zMK _) (fun Q hQ => ?_) hQ
 ·simp only [List.mem_cons,List.not_mem_nil,or_false] at hv
  rcases hv with rfl | rfl
  ·exact zQI l
  ·exact zMK e
 let I:Y76->Prop:=fun y=>y.j<=l.length/\[iZ y.k,iZ y.n,.str y.s,.slice 4 y.xs y.m]=zZB (l.drop y.j) e
 let R:Y76->Prop:=fun y=>[iZ y.k,iZ y.n,.str y.s,.slice 4 y.xs y.m]=zZB l e
 refine zKF (cuts:=[]) (zKM B w0 G) zMZ (fun lp hl _ Q a' σ kk => ?_) ((vc76 B w0 G l e I R Q).mpr ⟨⟨e.k,e.n,e.s,tcellL e.l,.any,l.length⟩,⟨Nat.le_refl _,?_⟩,⟨rfl,rfl,rfl,?_,rfl,rfl,.refl _⟩,fun y' hy σ' => ?_⟩)
 rotate_left
 ·show _=zZB (l.drop l.length) e
  rw [List.drop_length,zZB]; rfl
 ·rw [zMH,zN8 (by omega) (by omega)]
 ·refine hQ _ _ ?_
  have:=zZE l e
  rw [<-show [iZ y'.k,iZ y'.n,.str y'.s,.slice 4 y'.xs y'.m]=zZB l e from hy] at this
  exact this
 change lp∈zKE Tryz.prog [] 76 at hl
 rw [zZD] at hl
 simp only [List.mem_cons,List.not_mem_nil,or_false] at hl
 subst hl
 obtain ⟨y0,hI0,hat,hR⟩:=kk
 refine zK5 (ls76 l I) (x0:=y0) (fun y hI => ?_) (fun y hI e' a' σ hne kk => ?_) hI0 hat
 ·obtain ⟨k,n,s,xs,m,j⟩:=y
  obtain ⟨hj,hv⟩:=hI
  change j<=l.length at hj
  change [iZ k,iZ n,.str s,.slice 4 xs m]=zZB (l.drop j) e at hv
  refine zP3 zMZ (zKM B w0 G) (by kernel_rfl) ((vc76l B w0 G l I k n s xs m j).mpr (zE2 (fun h => ?_) (fun h=>⟨?_,rfl,rfl,rfl,rfl,trivial⟩)))
  ·have h:(j:Int) - 1 ≥ 0:=of_decide_eq_true h
   obtain ⟨i,rfl⟩:∃ i,j=i+1:=⟨j - 1,by omega⟩
   have hi:i<l.length:=by omega
   have hji:Int.toNat (((i+1:Nat):Int) - 1)=i:=by omega
   refine ⟨⟨h,by rw [zMH]; show ((i+1:Nat):Int) - 1<_; omega⟩,l[i],?_,⟨5,0,⟨⟨[46]⟩⟩,[.agg (tc l[i]),.agg [iZ k,iZ n,.str s,.slice 4 xs m]],.full,i⟩,⟨⟨by show i<=l.length; omega,?_⟩,?_⟩,rfl,rfl,rfl,?_,rfl,rfl,.refl _⟩
   ·show AV.vptr (AV.cells (List.getD (tcellL l) (Int.toNat (((i+1:Nat):Int) - 1)) AV.undef))=_
    rw [hji]; exact zNA hi
   ·show _=zZB (l.drop i) e
    rw [List.drop_eq_getElem_cons hi,zZB,<-hv]
   ·show i<i+1
    omega
   ·show TV.v (iZ (IntKind.wrap .i64 (((i+1:Nat):Int) - 1 - 1)))=TV.v (iZ ((i:Int) - 1))
    rw [zN8 (by omega) (by omega)]
    congr 2; omega
  ·have h:¬ (j:Int) - 1 ≥ 0:=of_decide_eq_false h
   show j=0
   omega
 ·obtain ⟨k,n,s,xs,m,j⟩:=y
  obtain ⟨hj,hv⟩:=hI
  change [iZ k,iZ n,.str s,.slice 4 xs m]=zZB (l.drop j) e at hv
  cases e' with
  | exit q =>
   match q,kk with
   | 0,kk =>
    have hj0:j=0:=kk.1
    subst hj0
    rw [List.drop_zero] at hv
    exact ⟨_,σ,(zJM kk.2).1,.refl _,hR ⟨k,n,s,xs,m,0⟩ hv σ⟩
  | normal=>exact absurd rfl hne
  | _=>exact kk.elim
end
end Go.V
namespace Go.V
open Go Go.Proofs
variable (B:Nat) (w0:World) (G:Nat->AV)
def moveV (x:Int×Int):AV:=.agg [iZ x.1,iZ x.2]
def zZF (l:List (Int×Int)):List AV:=l.map moveV
def C40:zJC:=fun args σ K=>∃ l:List (Int×Int),args=[.slice 2 (zZF l) .any,.slice 2 (zZF l) .any]/\(l.length<=3000000000000/\K (.bool true) σ.untok)
def ls40 (l:List (Int×Int)):LS Nat where
 F i:=[(0,.v (.slice 2 (zZF l) .any)),(1,.v (.slice 2 (zZF l) .any)),(5,.v (iZ (i:Int)))]
 FL _:=[]
 S _:=zJZ
 I i:=i<=l.length
 μ i:=l.length - i
 Ex i e a σ:=match e with
  | .exit 0=>atF a [] [] True
  | _=>False
def hMv:zIB:=zIB.as (fun x:Int×Int => .vptr [iZ x.1,iZ x.2])
theorem zZG:zKE Tryz.prog [] 40=[.loop (lB 40 0)]:=by kernel_rfl
theorem vc40l (l:List (Int×Int)) (i:Nat):(wpX [] (EV B w0 G) (H0 (EV B w0 G)) nL (zHI 40) (hAt [(6,2,hMv),(6,6,hMv)]) (lB 40 0) ((ls40 l).post i) (frm ((ls40 l).F i) []) zJZ) =
 (bcase (decide ((i:Int)<(List.length (zZF l):Int)))
 (((0:Int)<=(i:Int)/\(i:Int)<(List.length (zZF l):Int))/\∃ x0:Int×Int,AV.vptr (AV.cells (List.getD (zZF l) (Int.toNat (↑i:Int)) AV.undef))=AV.vptr [iZ (Prod.fst x0),iZ (Prod.snd x0)]/\((0:Int)<=(i:Int)/\(i:Int)<(List.length (zZF l):Int))/\∃ x1:Int×Int,AV.vptr (AV.cells (List.getD (zZF l) (Int.toNat (↑i:Int)) AV.undef))=AV.vptr [iZ (Prod.fst x1),iZ (Prod.snd x1)]/\bcase (!((((Prod.fst x0):Int)==(Prod.fst x1))&&((((Prod.snd x0):Int)==(Prod.snd x1))&&true)))
 False
 (∃ x'2:Nat,(LS.I (ls40 l) x'2/\LS.μ (ls40 l) x'2<LS.μ (ls40 l) i)/\Rf (TV.v (AV.slice 2 (zZF l) Cap.any))/\Rf (TV.v (AV.slice 2 (zZF l) Cap.any))/\TV.v (iZ (IntKind.wrap .i64 ((i:Int)+1)))=TV.v (iZ (x'2:Int))/\zA6.Le ((ls40 l).3 x'2) zJZ))
 True):=by kernel_rfl
def T40 (l:List (Int×Int)):zFV:=fun _ Q a σ=>atF a ((ls40 l).F 0) [] (zJZ.Le σ)/\∀ σ':zA6,Q (.exit 0) (frm [] []) σ'
theorem vc40 (l:List (Int×Int)) (Q:AV->zA6->Prop):(zKD [] (EV B w0 G) (H0 (EV B w0 G)) (T40 l) zHI zMV 40 [.slice 2 (zZF l) .any,.slice 2 (zZF l) .any] zJZ Q) =
 (bcase ((List.length (zZF l):Int) != (List.length (zZF l):Int))
 (Q (AV.bool false) zJZ)
 ((Rf (TV.v (AV.slice 2 (zZF l) Cap.any))/\Rf (TV.v (AV.slice 2 (zZF l) Cap.any))/\Rf (TV.v (iZ 0))/\zA6.Le zJZ zJZ)/\(∀ σ'0:zA6,Q (AV.bool true) σ'0))):=by kernel_rfl
end Go.V
namespace Go.V
open Go Go.Proofs

theorem zZH (l:List (Int×Int)):(zZF l).length=l.length:=by unfold zZF; rw [List.length_map]
theorem zZI {l:List (Int×Int)} {i:Nat} (h:i<l.length):AV.vptr (AV.cells (List.getD (zZF l) i AV.undef)) = .vptr [iZ l[i].1,iZ l[i].2]:=by
 unfold zZF
 rw [List.getD_eq_getElem?_getD,List.getElem?_eq_getElem (by rw [List.length_map]; exact h),List.getElem_map]; rfl
theorem zZJ:∀ (l:List (Int×Int)),∀ x∈zA0 (zZF l),zJV x:=fun l=>by
 induction l with
 | nil=>intro x hx; cases hx
 | cons y l ih =>
  intro x hx
  change x∈zA0 (moveV y :: zZF l) at hx
  rw [zC3,List.mem_append] at hx
  rcases hx with hx | hx
  ·change x∈([iZ y.1,iZ y.2]:List AV) at hx
   simp only [List.mem_cons,List.not_mem_nil,or_false] at hx
   rcases hx with rfl | rfl
   ·exact .int _ _
   ·exact .int _ _
  ·exact ih x hx
theorem zZK (l:List (Int×Int)):zJV (.slice 2 (zZF l) .any):=.slice (by simp) fun x hx=>zZJ l x hx
section
variable {B:Nat} {w0:World} {G:Nat->AV}
variable (hG:∀ i,zJV (G i))
include hG
theorem c40_ok:zJD (EV B w0 G) 40 C40:=by
 rintro args σ Q ⟨l,rfl,hlen,hQ⟩
 refine zN1 hG (fun v hv => ?_) (.bool _) (fun Q hQ => ?_) hQ
 ·simp only [List.mem_cons,List.not_mem_nil,or_false] at hv
  rcases hv with rfl | rfl <;> exact zZK l
 refine zKF (cuts:=[]) (zKM B w0 G) zMZ (fun lp hl _ Q a' σ kk => ?_) ((vc40 B w0 G l Q).mpr (zE2 (fun h=>by simp at h) (fun h=>⟨⟨rfl,rfl,rfl,.refl _⟩,hQ⟩)))
 change lp∈zKE Tryz.prog [] 40 at hl
 rw [zZG] at hl
 simp only [List.mem_cons,List.not_mem_nil,or_false] at hl
 subst hl
 obtain ⟨hat,hR⟩:=kk
 refine zK5 (ls40 l) (x0:=0) (fun i hI => ?_) (fun i hI e a' σ hne kk => ?_) (Nat.zero_le _) hat
 ·have hi:i<=l.length:=hI
  refine zP3 zMZ (zKM B w0 G) (by kernel_rfl) ((vc40l B w0 G l i).mpr (zE2 (fun h => ?_) (fun h=>trivial)))
  have h:=of_decide_eq_true h
  rw [zZH] at h
  have hi2:i<l.length:=by omega
  have hr:(0:Int)<=(i:Int)/\(i:Int)<((zZF l).length:Int):=⟨by omega,by rw [zZH]; omega⟩
  refine ⟨hr,l[i],by rw [Int.toNat_natCast]; exact zZI hi2,hr,l[i],by rw [Int.toNat_natCast]; exact zZI hi2,zE2 (fun h2=>by simp at h2) (fun h2=>⟨i+1,⟨hi2,?_⟩,rfl,rfl,?_,.refl _⟩)⟩
  ·show l.length - (i+1)<l.length - i
   omega
  ·rw [show ((i:Int)+1)=((i+1:Nat):Int) by omega,zN8 (by omega) (by omega)]
 ·cases e with
  | exit j =>
   match j,kk with
   | 0,kk =>
    have kk:atF a' [] [] True:=kk
    exact ⟨_,σ,(zJM kk).1,.refl _,hR σ⟩
  | normal=>exact absurd rfl hne
  | _=>exact kk.elim
end
end Go.V
namespace Go.V
open Go Go.Proofs
variable (B:Nat) (w0:World) (G:Nat->AV)
structure Y81 where
 cs:List Int
 i:Nat
def stC (cs:List Int):zA6:=zJZ.new (.cells (zP9 cs) 3 1 false)
def zZL (n:Nat) (o:List Int):Bool:=o.all fun x=>decide (0<=x)&&decide (x<(n:Int))
def zZM (o:List Int) (k:Nat):Nat:=o.countP fun x=>decide (x=(k:Int))
def zZN (ls:List (List T)) (o:List Int):Bool:=zZL ls.length o&&(List.range ls.length).all fun k=>decide (zZM o k=(ls.getD k []).length)
def C81:zJC:=fun args σ K=>∃ (ls:List (List T)) (o:List Int),args=[.slice 1 (lsV ls) .any,.slice 1 (zP9 o) .any]/\((ls.length<=1000000/\o.length<=1099511627776/\∀ l∈ls,l.length<=1000000)/\K (.bool (zZN ls o)) σ.untok)
def zZO (ls:List (List T)) (o:List Int) (I:Y81->Prop) (No:Prop):LS Y81 where
 F y:=[(0,.v (.slice 1 (lsV ls) .any)),(1,.v (.slice 1 (zP9 o) .any)),(5,.v (.rslice 0 0 ls.length)),(6,.v (iZ (y.i:Int)))]
 FL _:=[]
 S y:=stC y.cs
 I:=I
 μ y:=o.length - y.i
 Ex y e a σ:=match e with
  | .exit 0=>¬ (y.i<o.length)/\atF a [(0,.v (.slice 1 (lsV ls) .any)),(5,.v (.rslice 0 0 ls.length))] [] ((stC y.cs).Le σ)
  | .ret=>No/\atF a [(4,.v (.bool false))] [] True
  | _=>False
def N81:zIE:=hAt [(5,2,zTP),(5,8,zTP),(7,3,zTP),(7,5,hEl 3 1),(7,6,hAZ),(7,8,hEl 3 1),(7,9,hEl 3 1),(11,2,hEl 3 1),(11,3,hAZ),(11,6,hSl)]
theorem zZP:zKE Tryz.prog [] 81=[.loop (lB 81 0),.loop (lB 81 1)]:=by kernel_rfl
theorem vc81a (ls:List (List T)) (o:List Int) (I:Y81->Prop) (No:Prop) (cs:List Int) (i:Nat):(wpX [] (EV B w0 G) (H0 (EV B w0 G)) nL (zHI 81) N81 (lB 81 0) ((zZO ls o I No).post ⟨cs,i⟩) (frm ((zZO ls o I No).F ⟨cs,i⟩) []) (stC cs)) =
 (bcase (decide ((i:Int)<(List.length (zP9 o):Int)))
 (((0:Int)<=(i:Int)/\(i:Int)<(List.length (zP9 o):Int))/\∃ x0:Int,AV.vptr (AV.cells (List.getD (zP9 o) (Int.toNat (↑i:Int)) AV.undef))=AV.vptr [iZ x0]/\bcase (decide ((x0:Int)<0))
 (No /\Rf (TV.v (AV.bool false))/\True)
 (((0:Int)<=(i:Int)/\(i:Int)<(List.length (zP9 o):Int))/\∃ x1:Int,AV.vptr (AV.cells (List.getD (zP9 o) (Int.toNat (↑i:Int)) AV.undef))=AV.vptr [iZ x1]/\bcase (decide ((x1:Int) ≥ (List.length (lsV ls):Int)))
 (No /\Rf (TV.v (AV.bool false))/\True)
 (((0:Int)<=(i:Int)/\(i:Int)<(List.length (zP9 o):Int))/\∃ x2:Int,AV.vptr (AV.cells (List.getD (zP9 o) (Int.toNat (↑i:Int)) AV.undef))=AV.vptr [iZ x2]/\∃ a3:OE,zA5.cells (zP9 cs) 3 1 false=zA5.cells (OE.cs a3) 3 1 (OE.g a3)/\((0:Int)<=x2/\(x2:Int)<(List.length ls:Int))/\∃ a4:OE,zA5.cells (zP9 cs) 3 1 false=zA5.cells (OE.cs a4) 3 1 (OE.g a4)/\(((0+(Int.toNat x2))*1):Nat)<List.length (OE.cs a4)/\∃ x5:Int,List.getD (OE.cs a4) ((0+Int.toNat x2)*1) AV.undef=iZ x5/\∃ a6:OE,zA5.cells (zP9 cs) 3 1 false=zA5.cells (OE.cs a6) 3 1 (OE.g a6)/\((0:Int)<=x2/\(x2:Int)<(List.length ls:Int))/\∃ a7:OE,zA5.cells (zP9 cs) 3 1 false=zA5.cells (OE.cs a7) 3 1 (OE.g a7)/\((((0+(Int.toNat x2))*1)+1):Nat)<=List.length (OE.cs a7)/\∃ x'8:Y81,(I x'8/\LS.μ (zZO ls o I No) x'8<LS.μ (zZO ls o I No) (Y81.mk cs i))/\Rf (TV.v (AV.slice 1 (lsV ls) Cap.any))/\Rf (TV.v (AV.slice 1 (zP9 o) Cap.any))/\Rf (TV.v (AV.rslice 0 0 (List.length ls)))/\TV.v (iZ (IntKind.wrap .i64 ((i:Int)+1)))=TV.v (iZ (Y81.i x'8:Int))/\zA6.Le ((zZO ls o I No).3 x'8) (zA6.set (zA6.new zJZ (zA5.cells (zP9 cs) 3 1 false)) 0 (zA5.cells (zAF (OE.cs a7) ((0+(Int.toNat x2))*1) [iZ (IntKind.wrap .i64 (x5+1))]) 3 1 (OE.g a7))))))
 (((i<List.length o)->False)/\Rf (TV.v (AV.slice 1 (lsV ls) Cap.any))/\Rf (TV.v (AV.rslice 0 0 (List.length ls)))/\zA6.Le (zA6.new zJZ (zA5.cells (zP9 cs) 3 1 false)) (zA6.new zJZ (zA5.cells (zP9 cs) 3 1 false)))):=by kernel_rfl
def zZQ (ls:List (List T)) (cs:List Int) (I:Nat->Prop) (No:Prop):LS Nat where
 F j:=[(0,.v (.slice 1 (lsV ls) .any)),(5,.v (.rslice 0 0 ls.length)),(7,.v (iZ (j:Int)))]
 FL _:=[]
 S _:=stC cs
 I:=I
 μ j:=ls.length - j
 Ex j e a σ:=match e with
  | .exit 2=>¬ (j<ls.length)/\atF a [] [] True
  | .ret=>No/\atF a [(4,.v (.bool false))] [] True
  | _=>False
theorem vc81b (ls:List (List T)) (cs:List Int) (I:Nat->Prop) (No:Prop) (j:Nat):(wpX [] (EV B w0 G) (H0 (EV B w0 G)) nL (zHI 81) N81 (lB 81 1) ((zZQ ls cs I No).post j) (frm ((zZQ ls cs I No).F j) []) (stC cs)) =
 (bcase (decide ((j:Int)<(List.length (lsV ls):Int)))
 (∃ a0:OE,zA5.cells (zP9 cs) 3 1 false=zA5.cells (OE.cs a0) 3 1 (OE.g a0)/\((0:Int)<=(j:Int)/\(j:Int)<(List.length ls:Int))/\∃ a1:OE,zA5.cells (zP9 cs) 3 1 false=zA5.cells (OE.cs a1) 3 1 (OE.g a1)/\(((0+(Int.toNat (j:Int)))*1):Nat)<List.length (OE.cs a1)/\∃ x2:Int,List.getD (OE.cs a1) ((0+Int.toNat (↑j:Int))*1) AV.undef=iZ x2/\((0:Int)<=(j:Int)/\(j:Int)<(List.length (lsV ls):Int))/\∃ x3:List T,AV.vptr (AV.cells (List.getD (lsV ls) (Int.toNat (↑j:Int)) AV.undef))=AV.vptr [sT x3]/\bcase ((x2:Int) != (List.length (tcellL x3):Int))
 (No /\Rf (TV.v (AV.bool false))/\True)
 (∃ x'4:Nat,(I x'4/\LS.μ (zZQ ls cs I No) x'4<LS.μ (zZQ ls cs I No) j)/\Rf (TV.v (AV.slice 1 (lsV ls) Cap.any))/\Rf (TV.v (AV.rslice 0 0 (List.length ls)))/\TV.v (iZ (IntKind.wrap .i64 ((j:Int)+1)))=TV.v (iZ (x'4:Int))/\zA6.Le ((zZQ ls cs I No).3 x'4) (zA6.new zJZ (zA5.cells (zP9 cs) 3 1 false))))
 (((j<List.length ls)->False)/\True)):=by kernel_rfl
theorem zZR:zKA (.loop (lB 81 0))=some 3/\zKA (.loop (lB 81 1))=some 9:=by constructor <;> kernel_rfl
def T81a (ls:List (List T)) (o:List Int) (I R:Y81->Prop) (No:Prop):zFV:=fun _ Q a σ=>∃ y:Y81,I y/\atF a ((zZO ls o I No).F y) [] ((stC y.cs).Le σ)/\((∀ y':Y81,R y'->Q (.exit 0) (frm [(0,.v (.slice 1 (lsV ls) .any)),(5,.v (.rslice 0 0 ls.length))] []) (stC y'.cs))/\(No->∀ σ':zA6,Q .ret (frm [(4,.v (.bool false))] []) σ'))
def T81b (ls:List (List T)) (P:List Int->Nat->Prop) (Yes:Prop) (No:Prop):zFV:=fun _ Q a σ=>∃ cs:List Int,P cs 0/\atF a ((zZQ ls cs (P cs) No).F 0) [] ((stC cs).Le σ)/\((Yes->∀ σ':zA6,Q (.exit 2) (frm [] []) σ')/\(No->∀ σ':zA6,Q .ret (frm [(4,.v (.bool false))] []) σ'))
theorem vc81 (ls:List (List T)) (o:List Int) (I R:Y81->Prop) (P:List Int->Nat->Prop) (Yes No:Prop) (Q:AV->zA6->Prop):(zKD [] (EV B w0 G) (H0 (EV B w0 G)) (zKK [(3,T81a ls o I R No),(9,T81b ls P Yes No)]) zHI (hAt [(1,2,hEl 3 1)]) 81 [.slice 1 (lsV ls) .any,.slice 1 (zP9 o) .any] zJZ Q) =
 (((0:Int)<=(List.length (lsV ls):Int)/\(List.length (lsV ls):Int)<=(List.length (lsV ls):Int)/\((8*(List.length (lsV ls):Int)):Int)<=140737488355328/\(List.length (lsV ls):Int)<=4611686018427387904)/\∃ y0:Y81,I y0/\(Rf (TV.v (AV.slice 1 (lsV ls) Cap.any))/\Rf (TV.v (AV.slice 1 (zP9 o) Cap.any))/\TV.v (AV.rslice 0 0 (Int.toNat (List.length (lsV ls):Int)))=TV.v (AV.rslice 0 0 (List.length ls))/\TV.v (iZ 0)=TV.v (iZ (Y81.i y0:Int))/\zA6.Le (zA6.new zJZ (zA5.cells (zP9 (Y81.cs y0)) 3 1 false)) (zA6.new zJZ (zA5.cells (List.flatten (List.replicate (Int.toNat (↑(List.length (lsV ls)):Int)) (AV.cells (av (Go.Value.int IntKind.i64 0))))) 3 1 false)))/\(∀ y'1:Y81,((R y'1)->(∃ cs2:List Int,P cs2 0/\(Rf (TV.v (AV.slice 1 (lsV ls) Cap.any))/\Rf (TV.v (AV.rslice 0 0 (List.length ls)))/\Rf (TV.v (iZ 0))/\zA6.Le (zA6.new zJZ (zA5.cells (zP9 cs2) 3 1 false)) (zA6.new zJZ (zA5.cells (zP9 (Y81.cs y'1)) 3 1 false)))/\((Yes )->(∀ σ'3:zA6,Q (AV.bool true) σ'3))/\((No )->(∀ σ'3:zA6,Q (AV.bool false) σ'3)))))/\((No )->(∀ σ'1:zA6,Q (AV.bool false) σ'1))):=by kernel_rfl
end Go.V
