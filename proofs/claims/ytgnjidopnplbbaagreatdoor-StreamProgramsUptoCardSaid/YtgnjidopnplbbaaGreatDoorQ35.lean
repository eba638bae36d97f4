/- A part of the proof of the statement S8 (texts brought together and shortened by a program of this work). -/
import Derived.Test.YtgnjidopnplbbaaGreatDoorQ34
import Derived.Test.YtgnjidopnplbbaaGreatDoorQ19
import Derived.Test.YtgnjidopnplbbaaGreatDoorQ29
import Derived.Test.YtgnjidopnplbbaaGreatDoorQ32
set_option maxRecDepth 1000000
set_option linter.unusedVariables false
set_option linter.unusedSimpArgs false
set_option linter.unusedSectionVars false
namespace Go.V
open Go Go.Proofs

theorem zaW (σ:zA6) (i j:Nat) (o:zA5):(σ.set i o).objs j=if j=i then o else σ.objs j:=rfl
theorem zaX (σ:zA6) (j:Nat) (o:zA5):(σ.new o).objs j=if j=σ.next then o else σ.objs j:=rfl
theorem zaY:∀ (l:List T) (e:T),∃ (k n:Int) (s:ByteArray) (xs:List AV) (m:Cap),zZB l e=[iZ k,iZ n,.str s,.slice 4 xs m]
 | [],e=>⟨_,_,_,_,_,rfl⟩
 | x :: l,e=>⟨_,_,_,_,_,rfl⟩
def C163 (yid:Nat) (l:List T) (S:Nat->zA6->Prop):zJC:=fun args σ K=>∃ b:Nat,args=[.yield yid,.ptr b 0]/\((S l.length σ/\∀ (j:Nat) (σ:zA6),S j σ->∃ g,σ.objs b = .cells [slV l] 23 1 g)/\∀ σ',S 0 σ'->K (.tuple []) σ')
structure S117 (l:List T) (yid:Nat) (lp:zA4) (j:Nat) (σ:zA6):Prop where
 o0:∃ g,σ.objs 0 = .cells (zZB (l.drop j) zYQ) 37 4 g
 o1:∃ g,σ.objs 1 = .cells [slV l] 23 1 g
 lp:σ.objs yid = .loop lp
 ge:2<=yid
def zaZ (P:Program):zA4:=⟨zJ8 P 117,(frm F117 [(4,zNK)]).low,[28,29],zPR (zaU P),zPS (zaU P),.ready,none,117⟩
section
variable {B:Nat} {w0:World} {G:Nat->AV}
theorem c163_ok {yid:Nat} {l:List T} {S:Nat->zA6->Prop} (hlen:l.length<=1000000) (hY:∀ id args σ Q,YT163 yid l S id args σ Q->zDZ (EV B w0 G) id args σ Q):zJD (EV B w0 G) 163 (C163 yid l S):=by
 rintro args σ Q ⟨b,rfl,⟨hS,hob⟩,hQ⟩
 have hH:zIP (EV B w0 G) (H163 (EV B w0 G) yid l S):=zPI zMZ hY
 obtain ⟨g,hg⟩:=hob _ _ hS
 let I:zaQ->Prop:=fun y=>y.j<=l.length/\S y.j y.σ
 refine zKF (cuts:=[]) (zKM B w0 G) zMZ (fun lp hl _ Q a' σ kk => ?_) ((vc163 B w0 G yid b l I (fun y=>S 0 y.σ) σ Q).mpr ⟨g,hg,Nat.zero_lt_one,⟨σ,l.length⟩,⟨Nat.le_refl _,hS⟩,⟨rfl,rfl,by rw [zMH,zN8 (by omega) (by omega)],.refl _⟩,fun y' hy=>hQ _ hy⟩)
 change lp∈zKE Tryz.prog [] 163 at hl
 rw [zaS] at hl
 simp only [List.mem_cons,List.not_mem_nil,or_false] at hl
 subst hl
 obtain ⟨y0,hI0,hat,hR⟩:=kk
 refine zK5 (zaR yid b I) (x0:=y0) (fun y hI => ?_) (fun y hI e a' σ hne kk => ?_) hI0 hat
 ·obtain ⟨σy,j⟩:=y
  obtain ⟨hj,hSj⟩:j<=l.length/\S j σy:=hI
  refine zP3 hH (zKM B w0 G) (by kernel_rfl) ((vc163l B w0 G yid b l S I σy j).mpr (zE2 (fun h => ?_) (fun h=>⟨?_,.refl _⟩)))
  ·have h:(j:Int) - 1 ≥ 0:=of_decide_eq_true h
   obtain ⟨i,rfl⟩:∃ i,j=i+1:=⟨j - 1,by omega⟩
   have hi:i<l.length:=by omega
   obtain ⟨g,hg⟩:=hob _ _ hSj
   have e1:(((i+1:Nat):Int) - 1)=(i:Int):=by omega
   refine ⟨g,hg,Nat.zero_lt_one,⟨h,by rw [zMH]; show ((i+1:Nat):Int) - 1<_; omega⟩,l[i],?_,i,l[i],⟨rfl,?_⟩,⟨List.getElem?_eq_getElem hi,hSj⟩,fun σ' hS'=>⟨⟨σ',i⟩,⟨⟨by show i<=l.length; omega,hS'⟩,?_⟩,rfl,rfl,?_,.refl _⟩⟩
   ·show AV.vptr (AV.cells (List.getD (tcellL l) (Int.toNat (((i+1:Nat):Int) - 1)) AV.undef))=_
    rw [e1,Int.toNat_natCast]; exact zNA hi
   ·show [iZ (((i+1:Nat):Int) - 1),_]=_
    rw [e1]
   ·show i<i+1
    omega
   ·show TV.v (iZ (IntKind.wrap .i64 (((i+1:Nat):Int) - 1 - 1)))=TV.v (iZ ((i:Int) - 1))
    rw [e1,zN8 (by omega) (by omega)]
  ·have h:¬ (j:Int) - 1 ≥ 0:=of_decide_eq_false h
   show j=0
   omega
 ·obtain ⟨σy,j⟩:=y
  obtain ⟨hj,hSj⟩:j<=l.length/\S j σy:=hI
  cases e with
  | exit q =>
   match q,kk with
   | 0,kk =>
    have hj0:j=0:=kk.1
    subst hj0
    have kk2:atF a' [] [] (σy.Le σ):=kk.2
    exact ⟨_,_,(zJM kk2).1,(zJM kk2).2,hR ⟨σy,0⟩ hSj⟩
  | normal=>exact absurd rfl hne
  | _=>exact kk.elim
theorem y117_ok {l:List T} {yid:Nat}:∀ id args σ Q,YT163 yid l (S117 l yid (zaZ Tryz.prog)) id args σ Q->zDZ (EV B w0 G) id args σ Q:=by
 rintro id args σ Q ⟨j,x,⟨rfl,rfl⟩,⟨hx,hS⟩,hQ⟩
 refine zGM hS.lp rfl (by kernel_rfl) ?_
 obtain ⟨hj,hx⟩:=List.getElem?_eq_some_iff.1 hx
 have hw:wpC (EV B w0 G) (H0 (EV B w0 G)) nL (zHI 117) N117 (zPR (zaU Tryz.prog)) (zPT (EV B w0 G) (H0 (EV B w0 G)) nL (zHI 117) N117 id (zPS (zaU Tryz.prog)) Q) (frm [(3,.v (.ptr 0 0)),(29,.v (.agg (tc x)))] []) σ:=by
  obtain ⟨g,h0⟩:=hS.o0
  obtain ⟨g1,h1⟩:=hS.o1
  have hge:=hS.ge
  obtain ⟨k,n,s,xs,m,hf⟩:=zaY (l.drop (j+1)) zYQ
  rw [hf] at h0
  have hset:(σ.set id (.loop (zaZ Tryz.prog).busy)).objs 0 = .cells [iZ k,iZ n,.str s,.slice 4 xs m] 37 4 g:=by
   rw [zaW,if_neg (by omega)]; exact h0
  refine (vc117y B w0 G id x σ Q).mpr ⟨zaZ Tryz.prog,hS.lp,rfl,⟨k,n,s,xs,m,g⟩,hset,Nat.le_refl _,⟨[iZ k,iZ n,.str s,.slice 4 xs m],g⟩,hset,Nat.le_refl _,(zaZ Tryz.prog).busy,?_,hQ _ ⟨⟨g,?_⟩,⟨g1,?_⟩,?_,hge⟩⟩
  ·rw [zaW,if_neg (by omega),zaW,if_pos rfl]
  ·rw [zaW,if_neg (by omega),zaW,if_pos rfl,List.drop_eq_getElem_cons hj,zZB,hf,hx]; rfl
  ·rw [zaW,if_neg (by omega),zaW,if_neg (by omega),zaW,if_neg (by omega)]; exact h1
  ·rw [zaW,if_pos rfl]; rfl
 refine .pre_wk (a':=frm [(3,.v (.ptr 0 0)),(29,.v (.agg (tc x)))] []) (σ':=σ) (zJM (F:=[(3,.v (.ptr 0 0)),(29,.v (.agg (tc x)))]) (FL:=[]) (R:=True) ⟨rfl,rfl,trivial⟩).1 (.refl _) ?_
 refine (zJ4 zMZ (zKM B w0 G) _ _ _ _ (fun l _ _ Q a σ k=>k.elim) (by kernel_rfl) hw).mono fun e a σ' k => ?_
 cases e with
 | normal =>
  obtain ⟨l1,h1,h2,h3⟩:=k
  show match zGD σ' id with | none=>False | some l=>l.st = .ready/\AWp _ _ _ _ _ a (σ'.set id (.loop { l with st:=.busy }))
  have e1:zGD σ' id=some l1:=by unfold zGD; rw [h1]
  rw [e1]
  refine ⟨h2,(zJ4 zMZ (zKM B w0 G) _ _ _ _ (fun l _ _ Q a σ k=>k.elim) (by kernel_rfl) h3).mono fun e a2 σ2 k2 => ?_⟩
  cases e with
  | normal =>
   obtain ⟨l2,h4,h5⟩:=k2
   have e2:zGD σ2 id=some l2:=by unfold zGD; rw [h4]
   unfold zGF
   rw [e2]
   exact h5
  | _=>exact k2.elim
 | _=>exact k.elim
def P117 (l:List T) (σ:zA6):Prop:=σ.next=2/\σ.objs 0 = .cells (tc zYQ) 37 4 false/\σ.objs 1 = .cells [slV l] 23 1 false
def R117 (l:List T) (σ:zA6):Prop:=∃ g,σ.objs 0 = .cells (zZB l zYQ) 37 4 g
theorem rf117_ok {l:List T} (hlen:l.length<=1000000) (Q:zDW) (a:zDN) (σ:zA6) (h:T117 (P117 l) (R117 l) (.rangeFunc (.tmp 27) #[28,29] (zPR (zaU Tryz.prog)) (zPS (zaU Tryz.prog))) Q a σ) :
  AWp (EV B w0 G) none (zJ8 Tryz.prog 117) (.rangeFunc (.tmp 27) #[28,29] (zPR (zaU Tryz.prog)) (zPS (zaU Tryz.prog))) Q a σ:=by
 obtain ⟨σ0,⟨hn,h0,h1⟩,hat,hR⟩:=h
 refine .post_wk (.pre_wk (zJM hat).1 (zJM hat).2 ?_)
 refine zGQ (fi:=163) (first:=[]) (cap:=[.ptr 1 0]) (own:=117) rfl (by kernel_rfl) trivial ?_
 refine c163_ok hlen (y117_ok (l:=l) (yid:=σ0.next)) _ _ _ ⟨1,rfl,⟨⟨⟨false,?_⟩,⟨false,?_⟩,?_,by omega⟩,fun j σ hS=>hS.o1⟩,fun σ' hS' => ?_⟩
 ·rw [List.drop_length,zZB,zaX,if_neg (by omega)]; exact h0
 ·rw [zaX,if_neg (by omega)]; exact h1
 ·rw [zaX,if_pos rfl]; rfl
 have hl1:zGD σ' σ0.next=some (zaZ Tryz.prog):=by unfold zGD; rw [hS'.lp]
 unfold zGN
 rw [hl1]
 refine ⟨(by intro e; cases e),_,_,?_,.refl _,hR _ ?_⟩
 ·exact (zJM (F:=[(3,.v (.ptr 0 0)),(4,.l 4 0)]) (FL:=[(4,zNK)]) (R:=True) ⟨rfl,rfl,rfl,trivial⟩).1
 ·obtain ⟨g,hg⟩:=hS'.o0
  exact ⟨g,by rw [zaW,if_neg (by omega)]; exact hg⟩
theorem c135_ok:zJD (EV B w0 G) 135 C135:=by
 rintro args σ Q ⟨l,rfl,hQ⟩
 exact zKF (cuts:=[]) (zKM B w0 G) zMZ (fun lp hl _ Q a' σ' kk=>kk.elim) ((vc135 B w0 G l σ Q).mpr hQ)
variable (hG:∀ i,zJV (G i))
include hG
theorem c117_ok:zJD (EV B w0 G) 117 C117:=by
 rintro args σ Q ⟨l,rfl,hlen,hQ⟩
 refine zSL hG (fun v hv => ?_) (.tuple fun v hv => ?_) (fun Q hQ => ?_) hQ
 ·simp only [List.mem_cons,List.not_mem_nil,or_false] at hv
  rcases hv with rfl | rfl
  ·exact zQI l
  ·exact zMK _
 ·simp only [List.mem_cons,List.not_mem_nil,or_false] at hv
  rcases hv with rfl | rfl
  ·exact zMK _
  ·exact .int _ _
 have hnil:zND zYQ=0:=by kernel_rfl
 have bad:∀ (e:Int),za3 l=e->e≠0->∀ σ',Q (.tuple [.agg [iZ 0,iZ 0,.str ⟨⟨[]⟩⟩,.nilslice],iZ e]) σ':=fun e h1 h2 σ'=>by
  refine hQ _ _ ?_
  rw [h1,if_neg h2]
  exact Wk.tuple (.cons (Wk.tcNil _ _ _) (.cons (.refl _) .nil))
 refine zKF (cuts:=[]) (zKM B w0 G) (zJJ (zKM B w0 G) (zJI (zTB hG) (zJI (c66_ok hG) (zJI c135_ok (zJI (c136_ok hG) zJH))))) (fun lp hl _ Q a' σ' kk => ?_) ((vc117 B w0 G l (P117 l) (R117 l) Q).mpr ⟨l,rfl,hlen,zE2 (fun h => ?_) (fun h=>⟨⟨3,0,⟨⟨[91,93]⟩⟩,[],.any,false⟩,rfl,Nat.le_refl _,zYQ,rfl,zE2 (fun h2 => ?_) (fun h2=>zE2 (fun h3 => ?_) (fun h3=>⟨l,rfl,_,⟨rfl,rfl,rfl⟩,⟨rfl,rfl,rfl,rfl,.refl _⟩,fun σ' hR => ?_⟩))⟩)⟩)
 ·change lp∈zKE Tryz.prog [] 117 at hl
  rw [zaV] at hl
  simp only [List.mem_cons,List.not_mem_nil,or_false] at hl
  subst hl
  exact rf117_ok hlen Q a' σ' kk
 ·have ht:zS5 l=false:=by
   cases e:zS5 l with
   | false=>rfl
   | true=>rw [e] at h; simp at h
  rw [ht]
  exact bad 3 (by unfold za3; rw [ht,if_pos rfl]) (by omega) _
 ·rw [hnil] at h2; simp at h2
 ·have ht:zS5 l=true:=by
   cases e:zS5 l with
   | true=>rfl
   | false=>rw [e] at h; simp at h
  have h3:=of_decide_eq_true h3
  rw [zMH] at h3
  exact bad 2 (by unfold za3; rw [ht,if_neg (by simp),if_pos (by omega)]) (by omega) _
 ·have ht:zS5 l=true:=by
   cases e:zS5 l with
   | true=>rfl
   | false=>rw [e] at h; simp at h
  have h3:=of_decide_eq_false h3
  rw [zMH] at h3
  obtain ⟨g,hg⟩:=hR
  obtain ⟨k,n,s,xs,m,hf⟩:=zaY l zYQ
  have hg2:=hg
  rw [hf] at hg2
  have e:za3 l=if zND (zZC l zYQ)=0 then 0 else 2:=by unfold za3; rw [ht,if_neg (by simp),if_neg (by omega)]
  refine ⟨⟨k,n,s,xs,m,g⟩,hg2,Nat.le_refl _,l,by rw [hf],hQ _ _ ?_⟩
  rw [e]
  by_cases hc:zND (zZC l zYQ)=0
  ·rw [if_pos hc,if_pos hc]; exact .refl _
  ·rw [if_neg hc,if_neg hc]; exact .refl _
end
end Go.V
namespace Go.V
open Go Go.Proofs
variable (B:Nat) (w0:World) (G:Nat->AV)
def C69:zJC:=fun args σ K=>∃ n:Nat,args=[iZ (n:Int)]/\(n<=8/\K (zSI (zYV n)) σ.untok)
def C119:zJC:=fun args σ K=>∃ (l:List T) (m:Cap),args=[.slice 4 (tcellL l) m]/\K (.agg (tc (zYS l))) σ.untok
def C121q:zJC:=fun args σ K=>∃ (p:List Pr) (g:T),args=[zSI p,.agg [iZ 1,.slice 4 [.agg (tc g)] .full]]/\(zW2 p/\K (iZ (if zSH p ⟨1,[g]⟩=true then 0 else 5)) σ.untok)
def zb0:List AV:=[iZ 0,.nilslice]
def zb1 (ls:List (List T)) (I:zUC->Prop) (No:Prop):LS zUC where
 F y:=[(0,.v (.slice 1 (lsV ls) .any)),(2,.l 2 0),(4,.v y.v),(10,.v (.slice 1 (lsV ls) .any)),(11,.v (iZ (ls.length:Int))),(12,.v (iZ (y.i:Int)))]
 FL _:=[(2,zb0)]
 S y:=y.σ
 I:=I
 μ y:=ls.length - y.i
 Ex y e a σ:=match e with
  | .exit 0=>¬ (y.i<ls.length)/\atF a [(0,.v (.slice 1 (lsV ls) .any)),(2,.l 2 0),(4,.v y.v)] [(2,zb0)] (y.σ.Le σ)
  | .ret=>No/\atF a [(2,.l 2 0),(3,.v (iZ 2))] [(2,zb0)] True
  | _=>False
def N75:zIE:=hAt [(4,0,hSl),(8,0,zP6),(8,3,hEl 37 4),(10,0,zP6),(10,3,hEl 37 4)]
def ann75f:zDM:=⟨fun id i=>match Nat.beq id 10&&Nat.beq i 3 with | true => .frz | false=>(zHI 75).ann id i,(zHI 75).eff⟩
def annF75 (f:Nat):zDM:=match Nat.beq f 75 with | true=>ann75f | false=>zHI f
theorem zb2:zKE Tryz.prog [] 75=[.loop (lB 75 0)]:=by kernel_rfl
def H75 (E:Env):zDY:=hnd E zHI zMU [(118,C118),(117,C117),(120,C78),(119,C119),(69,C69),(121,C121q)]
theorem vc75l (ls:List (List T)) (I:zUC->Prop) (No:Prop) (σ:zA6) (v:AV) (i:Nat):(wpX [] (EV B w0 G) (H75 (EV B w0 G)) nL (annF75 75) N75 (lB 75 0) ((zb1 ls I No).post ⟨σ,v,i⟩) (frm ((zb1 ls I No).F ⟨σ,v,i⟩) ((zb1 ls I No).FL ⟨σ,v,i⟩)) σ) =
 (bcase (decide ((i:Int)<(List.length ls:Int)))
 (((0:Int)<=(i:Int)/\(i:Int)<(List.length (lsV ls):Int))/\∃ x0:List T,AV.vptr (AV.cells (List.getD (lsV ls) (Int.toNat (↑i:Int)) AV.undef))=AV.vptr [sT x0]/\([]:List AV)=[]/\∃ l1:List T,[sT x0,AV.agg [iZ 3,iZ 0,AV.str ⟨⟨[91,93]⟩⟩,AV.slice 4 [] Cap.any]]=[sT l1,AV.agg [iZ 3,iZ 0,AV.str ⟨⟨[91,93]⟩⟩,AV.slice 4 [] Cap.any]]/\List.length l1<=1000000/\bcase (((za3 l1):Int) != 0)
 (No /\Rf (TV.l 2 0)/\Rf (TV.v (iZ 2))/\Rf [iZ 0,AV.nilslice]/\True)
 ((v=AV.nilslice/\Bd0 56 1/\∃ x'2:zUC,(I x'2/\LS.μ (zb1 ls I No) x'2<LS.μ (zb1 ls I No) (zUC.mk σ v i))/\Rf (TV.v (AV.slice 1 (lsV ls) Cap.any))/\Rf (TV.l 2 0)/\TV.v (AV.rslice (zA6.next σ) 0 1)=TV.v (zUC.v x'2)/\Rf (TV.v (AV.slice 1 (lsV ls) Cap.any))/\Rf (TV.v (iZ (List.length ls:Int)))/\TV.v (iZ (IntKind.wrap .i64 ((i:Int)+1)))=TV.v (iZ (zUC.i x'2:Int))/\Rf [iZ 0,AV.nilslice]/\zA6.Le ((zb1 ls I No).3 x'2) (zA6.new (Ut (Ut σ)) (zA5.cells (tc (if za3 l1=0 then zZC l1 zYQ else Tz)) 37 4 true)))\/∃ x2:RS,v=AV.rslice (RS.id x2) 0 (RS.n x2)/\∃ a3:OE,zA6.objs (Ut (Ut σ)) (RS.id x2)=zA5.cells (OE.cs a3) 37 4 (OE.g a3)/\((0:Nat)=0/\Bd ((RS.n x2)+1) 56/\(((RS.n x2)*4):Nat)<=List.length (OE.cs a3))/\∃ x'4:zUC,(I x'4/\LS.μ (zb1 ls I No) x'4<LS.μ (zb1 ls I No) (zUC.mk σ v i))/\Rf (TV.v (AV.slice 1 (lsV ls) Cap.any))/\Rf (TV.l 2 0)/\TV.v (AV.rslice (zA6.next σ) 0 ((RS.n x2)+1))=TV.v (zUC.v x'4)/\Rf (TV.v (AV.slice 1 (lsV ls) Cap.any))/\Rf (TV.v (iZ (List.length ls:Int)))/\TV.v (iZ (IntKind.wrap .i64 ((i:Int)+1)))=TV.v (iZ (zUC.i x'4:Int))/\Rf [iZ 0,AV.nilslice]/\zA6.Le ((zb1 ls I No).3 x'4) (zA6.new (zA6.set (Ut (Ut σ)) (RS.id x2) zA5.dead) (zA5.cells ((List.take ((RS.n x2)*4) (OE.cs a3))++(tc (if za3 l1=0 then zZC l1 zYQ else Tz))) 37 4 true))))
 (((i<List.length ls)->False)/\Rf (TV.v (AV.slice 1 (lsV ls) Cap.any))/\Rf (TV.l 2 0)/\Rf (TV.v v)/\Rf [iZ 0,AV.nilslice]/\zA6.Le σ σ)):=by kernel_rfl
def T75 (ls:List (List T)) (I R:zUC->Prop) (No:Prop):zFV:=fun _ Q a σ=>∃ y:zUC,I y/\atF a ((zb1 ls I No).F y) ((zb1 ls I No).FL y) (y.σ.Le σ) /\
 ((∀ y':zUC,R y'->Q (.exit 0) (frm [(0,.v (.slice 1 (lsV ls) .any)),(2,.l 2 0),(4,.v y'.v)] [(2,zb0)]) y'.σ)/\(No->∀ σ':zA6,Q .ret (frm [(2,.l 2 0),(3,.v (iZ 2))] [(2,zb0)]) σ'))
theorem vc75 (ls:List (List T)) (I R:zUC->Prop) (No:Prop) (Q:AV->zA6->Prop):(zKD [] (EV B w0 G) (H75 (EV B w0 G)) (T75 ls I R No) annF75 N75 75 [.slice 1 (lsV ls) .any] zJZ Q) =
 (∃ y0:zUC,I y0/\(Rf (TV.v (AV.slice 1 (lsV ls) Cap.any))/\Rf (TV.l 2 0)/\TV.v AV.nilslice=TV.v (zUC.v y0)/\Rf (TV.v (AV.slice 1 (lsV ls) Cap.any))/\TV.v (iZ (List.length (lsV ls):Int))=TV.v (iZ (List.length ls:Int))/\TV.v (iZ 0)=TV.v (iZ (zUC.i y0:Int))/\Rf [iZ 0,AV.nilslice]/\zA6.Le y0.1 zJZ)/\(∀ y'1:zUC,((R y'1)->((zUC.v y'1=AV.nilslice/\∃ k2:Int,[iZ 0]=[iZ k2]/\Bd0 56 1/\∃ l3:List T,∃ m4:Cap,[AV.slice 4 [AV.agg (tc (vZ k2))] (Cap.tok (zA6.next y'1.1))]=[AV.slice 4 (tcellL l3) m4]/\∃ n5:Nat,[iZ (List.length (lsV ls):Int)]=[iZ (n5:Int)]/\n5<=8/\Rf (TV.v (AV.agg [iZ 1,AV.slice 4 [AV.agg [iZ 5,iZ 0,AV.str ⟨⟨[109,101,114,103,101]⟩⟩,sT (T.l (zYS l3))]] Cap.full]))/\∃ p6:List Pr,∃ g7:T,[AV.agg [AV.slice 3 (List.map prV (zYV n5)) Cap.any],AV.agg [iZ 1,AV.slice 4 [AV.agg [iZ 5,iZ 0,AV.str ⟨⟨[109,101,114,103,101]⟩⟩,sT (T.l (zYS l3))]] Cap.full]]=[AV.agg [AV.slice 3 (List.map prV p6) Cap.any],AV.agg [iZ 1,AV.slice 4 [AV.agg (tc g7)] Cap.full]]/\zW2 p6/\bcase (((if zSH p6 { vars:=1,goals:=[g7] }=Bool.true then 0 else 5):Int) != 0)
 (Q (AV.tuple [AV.agg [iZ 0,AV.nilslice],iZ 2]) (Ut (Ut (Ut (zA6.new (Ut y'1.1) (zA5.tok 1 37 4))))))
 (Q (AV.tuple [AV.agg [iZ 1,AV.slice 4 [AV.agg [iZ 5,iZ 0,AV.str ⟨⟨[109,101,114,103,101]⟩⟩,sT (T.l (zYS l3))]] Cap.full],iZ 0]) (Ut (Ut (Ut (zA6.new (Ut y'1.1) (zA5.tok 1 37 4)))))))\/∃ x2:RS,zUC.v y'1=AV.rslice (RS.id x2) 0 (RS.n x2)/\∃ k3:Int,[iZ 0]=[iZ k3]/\∃ a4:OE,zA6.objs (Ut y'1.1) (RS.id x2)=zA5.cells (OE.cs a4) 37 4 (OE.g a4)/\((0:Nat)=0/\Bd ((RS.n x2)+1) 56/\(((RS.n x2)*4):Nat)<=List.length (OE.cs a4))/\∃ a5:OE,zA6.objs (zA6.new (zA6.set (Ut y'1.1) (RS.id x2) zA5.dead) (zA5.cells ((List.take ((RS.n x2)*4) (OE.cs a4))++(tc (vZ k3))) 37 4 true)) (zA6.next y'1.1)=zA5.cells (OE.cs a5) 37 4 (OE.g a5)/\List.length (OE.cs a5)=(((RS.n x2)+1)*4)/\∃ l6:List T,∃ m7:Cap,[AV.slice 4 (zAH (Option.some 4) (OE.cs a5) ((RS.n x2)+1)) (Cap.tok (zA6.next y'1.1))]=[AV.slice 4 (tcellL l6) m7]/\∃ n8:Nat,[iZ (List.length (lsV ls):Int)]=[iZ (n8:Int)]/\n8<=8/\Rf (TV.v (AV.agg [iZ 1,AV.slice 4 [AV.agg [iZ 5,iZ 0,AV.str ⟨⟨[109,101,114,103,101]⟩⟩,sT (T.l (zYS l6))]] Cap.full]))/\∃ p9:List Pr,∃ g10:T,[AV.agg [AV.slice 3 (List.map prV (zYV n8)) Cap.any],AV.agg [iZ 1,AV.slice 4 [AV.agg [iZ 5,iZ 0,AV.str ⟨⟨[109,101,114,103,101]⟩⟩,sT (T.l (zYS l6))]] Cap.full]]=[AV.agg [AV.slice 3 (List.map prV p9) Cap.any],AV.agg [iZ 1,AV.slice 4 [AV.agg (tc g10)] Cap.full]]/\zW2 p9/\bcase (((if zSH p9 { vars:=1,goals:=[g10] }=Bool.true then 0 else 5):Int) != 0)
 (Q (AV.tuple [AV.agg [iZ 0,AV.nilslice],iZ 2]) (Ut (Ut (Ut (zA6.set (zA6.new (zA6.set (Ut y'1.1) (RS.id x2) zA5.dead) (zA5.cells ((List.take ((RS.n x2)*4) (OE.cs a4))++(tc (vZ k3))) 37 4 true)) (zA6.next y'1.1) (zA5.tok ((RS.n x2)+1) 37 4))))))
 (Q (AV.tuple [AV.agg [iZ 1,AV.slice 4 [AV.agg [iZ 5,iZ 0,AV.str ⟨⟨[109,101,114,103,101]⟩⟩,sT (T.l (zYS l6))]] Cap.full],iZ 0]) (Ut (Ut (Ut (zA6.set (zA6.new (zA6.set (Ut y'1.1) (RS.id x2) zA5.dead) (zA5.cells ((List.take ((RS.n x2)*4) (OE.cs a4))++(tc (vZ k3))) 37 4 true)) (zA6.next y'1.1) (zA5.tok ((RS.n x2)+1) 37 4)))))))))/\((No )->(∀ σ'1:zA6,Q (AV.tuple [AV.agg [iZ 0,AV.nilslice],iZ 2]) σ'1))):=by kernel_rfl
def OkL (ls:List (List T)):Prop:=ls.length<=1000000/\∀ l∈ls,l.length<=1000000
def C74':zJC:=fun args σ K=>∃ ls:List (List T),args=[.slice 1 (lsV ls) .any]/\(OkL ls/\K (iZ (zR2 ls)) σ.untok)
def C75:zJC:=fun args σ K=>∃ ls:List (List T),args=[.slice 1 (lsV ls) .any]/\((OkL ls/\zR2 ls=0)/\K (.tuple [quV (if za4 ls=0 then quN ls else quZ),iZ (za4 ls)]) σ.untok)
theorem vc35 (ls:List (List T)) (Q:AV->zA6->Prop):(zKD [] (EV B w0 G) (hnd (EV B w0 G) zHI zMU [(74,C74'),(75,C75)]) nL zHI zMV 35 [.slice 1 (lsV ls) .any] zJZ Q) =
 (∃ ls0:List (List T),[AV.slice 1 (lsV ls) Cap.any]=[AV.slice 1 (lsV ls0) Cap.any]/\(List.length ls0<=1000000/\(∀ l1:List T,((l1∈ls0)->(List.length l1<=1000000))))/\bcase (((zR2 ls0):Int) != 0)
 (Q (AV.tuple [AV.agg [iZ 0,AV.nilslice],iZ (zR2 ls0)]) (Ut zJZ))
 (∃ ls1:List (List T),[AV.slice 1 (lsV ls) Cap.any]=[AV.slice 1 (lsV ls1) Cap.any]/\((List.length ls1<=1000000/\(∀ l2:List T,((l2∈ls1)->(List.length l2<=1000000))))/\((zR2 ls1):Int)=0)/\Q (AV.tuple [AV.agg [iZ (Qu.vars (if za4 ls1=0 then quN ls1 else quZ)),sT (Qu.goals (if za4 ls1=0 then quN ls1 else quZ))],iZ (za4 ls1)]) (Ut (Ut zJZ)))):=by kernel_rfl
def C35:zJC:=fun args σ K=>∃ ls:List (List T),args=[.slice 1 (lsV ls) .any]/\(OkL ls/\K (.tuple [quV (za5 ls).2,iZ (za5 ls).1]) σ.untok)
theorem vc25 (n:Int) (Q:AV->zA6->Prop):(zKD [] (EV B w0 G) (hnd (EV B w0 G) zHI zMU [(69,C69)]) nL zHI zMV 25 [iZ n] zJZ Q) =
 (bcase (decide ((n:Int)<0))
 (Q (AV.tuple [AV.agg [AV.nilslice],iZ 1]) zJZ)
 (bcase (decide ((n:Int) > 8))
 (Q (AV.tuple [AV.agg [AV.nilslice],iZ 1]) zJZ)
 (∃ n0:Nat,[iZ n]=[iZ (n0:Int)]/\n0<=8/\Q (AV.tuple [AV.agg [AV.slice 3 (List.map prV (zYV n0)) Cap.any],iZ 0]) (Ut zJZ)))):=by kernel_rfl
end Go.V
namespace Go.V
open Go Go.Proofs

def fitT (x:T):Bool:=decide (zND x=0)&&decide (x.bulk<=1000000)
def zb3 (c:Cl):Bool:=(Nat.ble c.head.length 1000&&(Nat.ble c.guard.length 1000&&Nat.ble c.body.length 1000))&&c.all.all fitT
def zb4 (p:List Pr):Bool:=Nat.ble p.length 1000&&p.all fun q=>(Nat.ble q.name.size 1000&&Nat.ble q.cls.length 1000)&&q.cls.all zb3
theorem fitB0:zb4 (zYV 0)=true:=by kernel_rfl
theorem fitB1:zb4 (zYV 1)=true:=by kernel_rfl
theorem fitB2:zb4 (zYV 2)=true:=by kernel_rfl
theorem fitB3:zb4 (zYV 3)=true:=by kernel_rfl
theorem fitB4:zb4 (zYV 4)=true:=by kernel_rfl
theorem fitB5:zb4 (zYV 5)=true:=by kernel_rfl
theorem fitB6:zb4 (zYV 6)=true:=by kernel_rfl
theorem fitB7:zb4 (zYV 7)=true:=by kernel_rfl
theorem fitB8:zb4 (zYV 8)=true:=by kernel_rfl
theorem zb5:∀ n,n<=8->zb4 (zYV n)=true
 | 0,_=>fitB0
 | 1,_=>fitB1
 | 2,_=>fitB2
 | 3,_=>fitB3
 | 4,_=>fitB4
 | 5,_=>fitB5
 | 6,_=>fitB6
 | 7,_=>fitB7
 | 8,_=>fitB8
 | n+9,h=>absurd h (by omega)
structure zb6 (c:Cl):Prop where
 h:c.head.length<=1000
 g:c.guard.length<=1000
 b:c.body.length<=1000
 t:∀ x∈c.all,zND x=0/\x.bulk<=1000000
theorem zb7 {c:Cl} (h:zb3 c=true):zb6 c:=by
 unfold zb3 at h
 simp only [Bool.and_eq_true] at h
 obtain ⟨⟨h1,h2,h3⟩,h4⟩:=h
 refine ⟨Nat.le_of_ble_eq_true h1,Nat.le_of_ble_eq_true h2,Nat.le_of_ble_eq_true h3,fun x hx => ?_⟩
 have:=List.all_eq_true.1 h4 x hx
 unfold fitT at this
 simpa only [Bool.and_eq_true,decide_eq_true_eq] using this
structure zb8 (p:List Pr):Prop where
 len:p.length<=1000
 name:∀ q∈p,q.name.size<=1000
 cls:∀ q∈p,q.cls.length<=1000
 cl:∀ q∈p,∀ c∈q.cls,zb6 c
theorem fitB_ok {p:List Pr} (h:zb4 p=true):zb8 p:=by
 unfold zb4 at h
 rw [Bool.and_eq_true] at h
 have key:∀ q∈p,(q.name.size<=1000/\q.cls.length<=1000)/\∀ c∈q.cls,zb6 c:=fun q hq=>by
  have:=List.all_eq_true.1 h.2 q hq
  simp only [Bool.and_eq_true] at this
  exact ⟨⟨Nat.le_of_ble_eq_true this.1.1,Nat.le_of_ble_eq_true this.1.2⟩,fun c hc=>zb7 (List.all_eq_true.1 this.2 c hc)⟩
 exact ⟨Nat.le_of_ble_eq_true h.1,fun q hq=>(key q hq).1.1,fun q hq=>(key q hq).1.2,fun q hq=>(key q hq).2⟩
theorem zb9 {n:Nat} (h:n<=8):zb8 (zYV n):=fitB_ok (zb5 n h)
theorem zb8.small {p:List Pr} (h:zb8 p):zW2 p :=
 ⟨by have:=h.len; omega,fun q hq=>by have:=h.cls q hq; omega,fun q hq c hc=>by have k:=h.cl q hq c hc; have k1:=k.h; have k2:=k.g; have k3:=k.b; exact ⟨by omega,by omega,by omega⟩⟩
theorem zb8.bulk {p:List Pr} (h:zb8 p):zY4 p where
 len:=by have:=h.len; omega
 cls q hq:=by have:=h.cls q hq; omega
 cl q hq c hc:=⟨h.small.cl q hq c hc,fun x hx=>by have:=((h.cl q hq c hc).t x hx).2; show x.bulk<=_; omega⟩
 name q hq:=by have:=h.name q hq; omega
theorem zb8.fit {p:List Pr} (h:zb8 p):FitP p where
 len:=by have:=h.len; omega
 pr q hq:={
  len:=by have:=h.cls q hq; omega
  cl:=fun c hc=>⟨by have k:=h.cl q hq c hc; have k1:=k.h; have k2:=k.g; have k3:=k.b; exact ⟨by omega,by omega,by omega⟩,fun x hx=>zNO ((h.cl q hq c hc).t x hx).1⟩ }
end Go.V
namespace Go.V
open Go Go.Proofs

def zbA (ls:List (List T)):List T:=ls.map fun l=>zZC l zYQ
theorem zbB {ls:List (List T)} {i:Nat} (h:i<ls.length):zbA (ls.take (i+1))=zbA (ls.take i)++[zZC ls[i] zYQ]:=by
 unfold zbA
 rw [List.take_succ_eq_append_getElem h,List.map_append]; rfl
theorem zbC (ls:List (List T)):(zbA ls).length=ls.length:=by unfold zbA; rw [List.length_map]
theorem zbD:Wk (.agg [iZ 0,.nilslice]) (quV quZ):=Wk.agg (.cons (.refl _) (.cons (Wk.nil 4) .nil))
theorem zbE (g:T):tcellL [g]=[.agg (tc g)]:=by rw [tcellL,tcellL,zZ8]
theorem qu_wk (g:T):Wk (.agg [iZ 1,.slice 4 [.agg (tc g)] .full]) (quV ⟨1,[g]⟩):=by
 have h:quV ⟨1,[g]⟩ = .agg [iZ 1,.slice 4 [.agg (tc g)] .any]:=by
  show AV.agg [iZ 1,.slice 4 (tcellL [g]) .any]=_
  rw [zbE]
 rw [h]
 exact Wk.agg (.cons (.refl _) (.cons (Wk.slice _ _ _) .nil))
theorem zbF {ls:List (List T)} (h:zR2 ls=0):ls.length<=8/\∀ l∈ls,∀ x∈l,grT x=true:=by
 unfold zR2 at h
 split at h
 ·omega
 ·split at h
  ·rename_i h1 h2
   exact ⟨by omega,fun l hl x hx=>List.all_eq_true.1 (List.all_eq_true.1 h2 l hl) x hx⟩
  ·omega
theorem gr_chk {x:T} (h:grT x=true):zND x=0:=by
 unfold grT at h
 rw [Bool.and_eq_true,decide_eq_true_eq] at h
 exact h.1
section
variable {B:Nat} {w0:World}
theorem c121q_ok:zJD (EV B w0 G1) 121 C121q:=by
 rintro args σ Q ⟨p,g,rfl,hp,hQ⟩
 refine zDV.argsW (ys:=[zSI p,quV ⟨1,[g]⟩]) ?_ (.cons (.refl _) (.cons (qu_wk g) .nil))
 exact c121_ok _ _ _ ⟨p,⟨1,[g]⟩,rfl,⟨hp,by show 1<=_; omega⟩,hQ⟩
end
section
variable {B:Nat} {w0:World} {G:Nat->AV}
variable (hG:∀ i,zJV (G i))
include hG
theorem c119w_ok:zJD (EV B w0 G) 119 C119:=by
 rintro args σ Q ⟨l,m,rfl,hQ⟩
 refine zDV.argsW (ys:=[slV l]) ?_ (.cons (Wk.slice _ _ _) .nil)
 exact c119_ok hG _ _ _ ⟨l,rfl,hQ⟩
end
section
theorem c75_ok {B:Nat} {w0:World} (h69:zJD (EV B w0 G1) 69 C69):zJD (EV B w0 G1) 75 C75:=by
 rintro args σ Q ⟨ls,rfl,⟨⟨hlen,hbl⟩,hE⟩,hQ⟩
 obtain ⟨h8,hgr⟩:=zbF hE
 have hll:=zQF ls
 refine zSL zLR (fun v hv => ?_) (.tuple fun v hv => ?_) (fun Q hQ => ?_) hQ
 ·simp only [List.mem_cons,List.not_mem_nil,or_false] at hv
  subst hv; exact zQJ ls
 ·simp only [List.mem_cons,List.not_mem_nil,or_false] at hv
  rcases hv with rfl | rfl
  ·exact zWO _
  ·exact .int _ _
 have hH:zIP (EV B w0 G1) (H75 (EV B w0 G1)):=zJJ (zKM B w0 G1) (zJI (c118_ok zLR) (zJI (c117_ok zLR) (zJI (c120_ok zLR) (zJI (c119w_ok zLR) (zJI h69 (zJI c121q_ok zJH))))))
 let No:Prop:=∃ l∈ls,za3 l≠0
 have no:za4 ls=2->∀ σ',Q (.tuple [.agg [iZ 0,.nilslice],iZ 2]) σ':=fun h σ'=>by
  refine hQ _ _ ?_
  rw [h,if_neg (by omega)]
  exact Wk.tuple (.cons zbD (.cons (.refl _) .nil))
 have bad:No->za4 ls=2:=fun ⟨l,hl,he⟩=>za7 hl (fun x hx=>gr_chk (hgr l hl x hx)) he
 let I:zUC->Prop:=fun y=>y.i<=ls.length/\zaI 37 4 y.σ y.v y.i (zA0 (tcellL (zbA (ls.take y.i))))
 let R:zUC->Prop:=fun y=>zaI 37 4 y.σ y.v ls.length (zA0 (tcellL (zbA ls)))
 have fin:∀ (l:List T) (σ1:zA6),l=zbA ls++[vZ 0]->bcase (((if zSH (zYV ls.length) { vars:=1,goals:=[zYS l] }=Bool.true then 0 else 5):Int) != 0)
   (Q (AV.tuple [(AV.agg [(iZ 0),AV.nilslice]),(iZ 2)]) σ1) (Q (AV.tuple [(AV.agg [(iZ 1),(AV.slice 4 [(AV.agg (tc (zYS l)))] Cap.full)]),(iZ 0)]) σ1):=by
  rintro l σ1 rfl
  have e:za4 ls=if zSH (zYV ls.length) { vars:=1,goals:=[zYS (zbA ls++[vZ 0])] }=true then 0 else 2:=rfl
  refine zE2 (fun h => ?_) (fun h => ?_)
  ·refine no ?_ _
   rw [e]
   split at h
   ·simp at h
   ·rename_i h2; rw [if_neg h2]
  ·have h2:za4 ls=0:=by
    rw [e]
    split at h
    ·rename_i h2; rw [if_pos h2]
    ·simp at h
   refine hQ _ _ ?_
   rw [h2,if_pos rfl]
   exact Wk.tuple (.cons (qu_wk _) (.cons (.refl _) .nil))
 refine zKF (cuts:=[]) (zKM B w0 G1) hH (fun lp hl _ Q a' σ kk => ?_) ((vc75 B w0 G1 ls I R No Q).mpr ⟨⟨zJZ,.nilslice,0⟩,⟨Nat.zero_le _,.nil⟩,⟨rfl,rfl,rfl,rfl,by rw [hll],rfl,rfl,.refl _⟩,fun y' hy => ?_,fun h σ'=>no (bad h) σ'⟩)
 rotate_left
 ·obtain ⟨σy,v,i⟩:=y'
  have hy:zaI 37 4 σy v ls.length (zA0 (tcellL (zbA ls))):=hy
  rcases hy.untok with ⟨rfl,h0,h1⟩ | ⟨id,cs,g,rfl,hlt,ho,hcl,hcs⟩
  ·have hn:ls=[]:=List.length_eq_zero_iff.1 h0
   refine .inl ⟨rfl,0,rfl,⟨by omega,by omega⟩,[vZ 0],_,rfl,ls.length,by rw [hll],h8,rfl,zYV ls.length,zYS [vZ 0],rfl,(zb9 h8).small,?_⟩
   exact fin [vZ 0] _ (by rw [hn]; rfl)
  ·have ec:cs.take (ls.length*4)++tc (vZ 0)=zA0 (tcellL (zbA ls++[vZ 0])):=by rw [hcs,zP8]
   refine .inr ⟨⟨id,ls.length⟩,rfl,0,rfl,⟨cs,g⟩,ho,⟨rfl,⟨by show (ls.length+1)*56<=_; omega,by show ls.length+1<=_; omega⟩,hcl⟩,⟨cs.take (ls.length*4)++tc (vZ 0),true⟩,?_,?_,zbA ls++[vZ 0],.tok σy.next,?_,ls.length,by rw [hll],h8,rfl,zYV ls.length,zYS (zbA ls++[vZ 0]),rfl,(zb9 h8).small,?_⟩
   ·exact zA6.new_objs (zA6.set (zA6.untok σy) id .dead) _
   ·show (cs.take (ls.length*4)++tc (vZ 0)).length=_
    rw [ec,zNP,List.length_append,zbC]; rfl
   ·show [AV.slice 4 (zAH (some 4) (cs.take (ls.length*4)++tc (vZ 0)) (ls.length+1)) _]=_
    have e1:zAH (some 4) (cs.take (ls.length*4)++tc (vZ 0)) (ls.length+1)=tcellL (zbA ls++[vZ 0]):=by
     have:=zP7 (zbA ls++[vZ 0])
     rw [List.length_append,zbC] at this
     rw [ec]; exact this
    rw [e1]
   ·exact fin _ _ rfl
 change lp∈zKE Tryz.prog [] 75 at hl
 rw [zb2] at hl
 simp only [List.mem_cons,List.not_mem_nil,or_false] at hl
 subst hl
 obtain ⟨y0,hI0,hat,hR1,hR2⟩:=kk
 refine zK5 (zb1 ls I No) (x0:=y0) (fun y hI => ?_) (fun y hI e a' σ hne kk => ?_) hI0 hat
 ·obtain ⟨σy,v,i⟩:=y
  obtain ⟨hi,hO⟩:=hI
  change i<=ls.length at hi
  change zaI 37 4 σy v i (zA0 (tcellL (zbA (ls.take i)))) at hO
  refine zP3 hH (zKM B w0 G1) (by kernel_rfl) ((vc75l B w0 G1 ls I No σy v i).mpr (zE2 (fun h => ?_) (fun h=>⟨fun h2 => ?_,rfl,rfl,rfl,rfl,.refl _⟩)))
  ·have h:(i:Int)<(ls.length:Int):=of_decide_eq_true h
   have hk:i<ls.length:=by omega
   have hm:=List.getElem_mem hk
   refine ⟨⟨by show (0:Int)<=(i:Int); omega,by rw [hll]; exact h⟩,ls[i],by show AV.vptr (AV.cells (List.getD (lsV ls) (Int.toNat (i:Int)) AV.undef))=_; rw [Int.toNat_natCast,zQG hk]; rfl,rfl,ls[i],rfl,hbl _ hm,zE2 (fun he=>⟨⟨_,hm,by simpa using he⟩,rfl,rfl,rfl,trivial⟩) (fun he => ?_)⟩
   have he:za3 ls[i]=0:=by simpa using he
   have e:zA0 (tcellL (zbA (ls.take (i+1))))=zA0 (tcellL (zbA (ls.take i)))++tc (if za3 ls[i]=0 then zZC ls[i] zYQ else Tz):=by rw [zbB hk,zP8,if_pos he]
   rcases hO.untok.untok with ⟨rfl,h0,h1⟩ | ⟨id,cs,g,rfl,hlt,ho,hcl,hcs⟩
   ·refine .inl ⟨rfl,⟨by omega,by omega⟩,⟨_,.rslice σy.next 0 1,i+1⟩,⟨⟨hk,?_⟩,?_⟩,rfl,rfl,rfl,rfl,rfl,?_,rfl,.refl _⟩
    ·show zaI 37 4 _ _ (i+1) (zA0 (tcellL (zbA (ls.take (i+1)))))
     rw [e]
     have:=zaI.first (tid:=37) (sz:=4) (k:=1) (σ:=σy.untok.untok) (new:=tc (if za3 ls[i]=0 then zZC ls[i] zYQ else Tz)) h0 h1 rfl
     rw [show i+1=1 by omega] at this ⊢
     exact this
    ·show ls.length - (i+1)<ls.length - i
     omega
    ·exact congrArg (fun z=>TV.v (iZ z)) (wI1 hk (by omega))
   ·refine .inr ⟨⟨id,i⟩,rfl,⟨cs,g⟩,ho,⟨rfl,⟨by show (i+1)*56<=_; omega,by show i+1<=_; omega⟩,hcl⟩,⟨_,.rslice σy.next 0 (i+1),i+1⟩,⟨⟨hk,?_⟩,?_⟩,rfl,rfl,rfl,rfl,rfl,?_,rfl,.refl _⟩
    ·show zaI 37 4 _ _ (i+1) (zA0 (tcellL (zbA (ls.take (i+1)))))
     rw [e]
     exact zaI.more (k:=1) hcl hcs rfl
    ·show ls.length - (i+1)<ls.length - i
     omega
    ·exact congrArg (fun z=>TV.v (iZ z)) (wI1 hk (by omega))
  ·have h:¬ (i:Int)<(ls.length:Int):=of_decide_eq_false h
   have h2:i<ls.length:=h2
   omega
 ·obtain ⟨σy,v,i⟩:=y
  obtain ⟨hi,hO⟩:=hI
  change i<=ls.length at hi
  change zaI 37 4 σy v i (zA0 (tcellL (zbA (ls.take i)))) at hO
  cases e with
  | exit j =>
   match j,kk with
   | 0,kk =>
    obtain ⟨hk,hat⟩:=kk
    have hk:¬ i<ls.length:=hk
    rw [show i=ls.length by omega,List.take_length] at hO
    exact ⟨_,_,(zJM hat).1,(zJM hat).2,hR1 ⟨σy,v,i⟩ hO⟩
  | ret=>exact ⟨_,_,(zJM kk.2).1,.refl _,hR2 kk.1 _⟩
  | normal=>exact absurd rfl hne
  | _=>exact kk.elim
theorem c35_ok {B:Nat} {w0:World} (h69:zJD (EV B w0 G1) 69 C69):zJD (EV B w0 G1) 35 C35:=by
 rintro args σ Q ⟨ls,rfl,hb,hQ⟩
 refine zSL zLR (fun v hv => ?_) (.tuple fun v hv => ?_) (fun Q hQ => ?_) hQ
 ·simp only [List.mem_cons,List.not_mem_nil,or_false] at hv
  subst hv; exact zQJ ls
 ·simp only [List.mem_cons,List.not_mem_nil,or_false] at hv
  rcases hv with rfl | rfl
  ·exact zWO _
  ·exact .int _ _
 refine zKF (cuts:=[]) (zKM B w0 G1) (zJJ (zKM B w0 G1) (zJI (c74_ok zLR) (zJI (c75_ok h69) zJH))) (fun lp hl _ Q a' σ' kk=>kk.elim) ((vc35 B w0 G1 ls Q).mpr ⟨ls,rfl,hb,zE2 (fun h => ?_) (fun h=>⟨ls,rfl,⟨hb,by simpa using h⟩,hQ _ _ ?_⟩)⟩)
 ·have h:¬ zR2 ls=0:=by simpa using h
  refine hQ _ _ ?_
  unfold za5
  rw [if_neg h]
  exact Wk.tuple (.cons zbD (.cons (.refl _) .nil))
 ·have h:zR2 ls=0:=by simpa using h
  unfold za5
  rw [if_pos h]
  exact .refl _
def zbG (n:Int):Int×List Pr:=if n<0\/n > 8 then (1,[]) else (0,zYV n.toNat)
def C25g:zJC:=fun args σ K=>∃ n:Int,args=[iZ n]/\K (.tuple [zSI (zbG n).2,iZ (zbG n).1]) σ.untok
theorem c25g_ok {B:Nat} {w0:World} (h69:zJD (EV B w0 G1) 69 C69):zJD (EV B w0 G1) 25 C25g:=by
 rintro args σ Q ⟨n,rfl,hQ⟩
 refine zSL zLR (fun v hv => ?_) (.tuple fun v hv => ?_) (fun Q hQ => ?_) hQ
 ·simp only [List.mem_cons,List.not_mem_nil,or_false] at hv
  subst hv; exact .int _ _
 ·simp only [List.mem_cons,List.not_mem_nil,or_false] at hv
  rcases hv with rfl | rfl
  ·exact zWN _
  ·exact .int _ _
 have bad:(n<0\/n > 8)->∀ σ',Q (.tuple [.agg [.nilslice],iZ 1]) σ':=fun h σ'=>by
  refine hQ _ _ ?_
  unfold zbG
  rw [if_pos h]
  exact Wk.tuple (.cons (Wk.agg (.cons (Wk.nil 3) .nil)) (.cons (.refl _) .nil))
 refine zKF (cuts:=[]) (zKM B w0 G1) (zJJ (zKM B w0 G1) (zJI h69 zJH)) (fun lp hl _ Q a' σ' kk=>kk.elim) ((vc25 B w0 G1 n Q).mpr (zE2 (fun h=>bad (.inl (of_decide_eq_true h)) _) (fun h=>zE2 (fun h2=>bad (.inr (of_decide_eq_true h2)) _) (fun h2 => ?_))))
 have h:=of_decide_eq_false h
 have h2:=of_decide_eq_false h2
 refine ⟨n.toNat,by rw [Int.toNat_of_nonneg (by omega)],by omega,hQ _ _ ?_⟩
 unfold zbG
 rw [if_neg (by omega)]
 exact .refl _
end
end Go.V
namespace Go.V
open Go Go.Proofs
variable (B:Nat) (w0:World) (G:Nat->AV)
def argF (ls:List (List T)) (o:List Int):List (Nat×TV):=[(0,.v (.slice 1 (lsV ls) .any)),(1,.v (.slice 1 (zP9 o) .any))]
def retF (e:Int):List (Nat×TV):=[(4,.v .nilslice),(5,.v (iZ e))]
def zbH (ls:List (List T)) (o:List Int) (I:Y81->Prop) (No:Prop):LS Y81 where
 F y:=[(0,.v (.slice 1 (lsV ls) .any)),(1,.v (.slice 1 (zP9 o) .any)),(7,.v (.rslice 0 0 ls.length)),(27,.v (.slice 1 (zP9 o) .any)),(28,.v (iZ (o.length:Int))),(29,.v (iZ (y.i:Int)))]
 FL _:=[]
 S y:=stC y.cs
 I:=I
 μ y:=o.length - y.i
 Ex y e a σ:=match e with
  | .exit 0=>¬ (y.i<o.length)/\atF a [(0,.v (.slice 1 (lsV ls) .any)),(1,.v (.slice 1 (zP9 o) .any)),(7,.v (.rslice 0 0 ls.length))] [] ((stC y.cs).Le σ)
  | .ret=>No/\atF a [(4,.v .nilslice),(5,.v (iZ 1))] [] True
  | _=>False
def N37:zIE:=hAt [(7,0,zTP),(10,2,hEl 3 1),(10,3,hAZ),(10,5,hEl 3 1),(10,6,hEl 3 1),(14,1,hSl),(15,2,hEl 3 1),(15,3,hAZ),(25,0,zTP),(26,0,zP6),(26,8,hEl 119 2),(32,0,zP6),(32,5,hEl 119 2),(34,0,zP6),(34,7,hEl 119 2),(4,2,hEl 3 1)]
theorem zbI:zKE Tryz.prog [] 37=[.loop (lB 37 0),.loop (lB 37 1),.loop (lB 37 2),.loop (lB 37 3)]:=by kernel_rfl
theorem zbJ:zKA (.loop (lB 37 0))=some 6/\zKA (.loop (lB 37 1))=some 13/\zKA (.loop (lB 37 2))=some 24/\zKA (.loop (lB 37 3))=some 30:=by refine ⟨?_,?_,?_,?_⟩ <;> kernel_rfl
theorem vc37a (ls:List (List T)) (o:List Int) (I:Y81->Prop) (No:Prop) (cs:List Int) (i:Nat):(wpX [] (EV B w0 G) (H0 (EV B w0 G)) nL (zHI 37) N37 (lB 37 0) ((zbH ls o I No).post ⟨cs,i⟩) (frm ((zbH ls o I No).F ⟨cs,i⟩) []) (stC cs)) =
 (bcase (decide ((i:Int)<(List.length o:Int)))
 (((0:Int)<=(i:Int)/\(i:Int)<(List.length (zP9 o):Int))/\∃ x0:Int,AV.vptr (AV.cells (List.getD (zP9 o) (Int.toNat (↑i:Int)) AV.undef))=AV.vptr [iZ x0]/\bcase (decide ((x0:Int)<0))
 (No /\Rf (TV.v AV.nilslice)/\Rf (TV.v (iZ 1))/\True)
 (bcase (decide ((x0:Int) ≥ (List.length (lsV ls):Int)))
 (No /\Rf (TV.v AV.nilslice)/\Rf (TV.v (iZ 1))/\True)
 (∃ a1:OE,zA5.cells (zP9 cs) 3 1 false=zA5.cells (OE.cs a1) 3 1 (OE.g a1)/\((0:Int)<=x0/\(x0:Int)<(List.length ls:Int))/\∃ a2:OE,zA5.cells (zP9 cs) 3 1 false=zA5.cells (OE.cs a2) 3 1 (OE.g a2)/\(((0+(Int.toNat x0))*1):Nat)<List.length (OE.cs a2)/\∃ x3:Int,List.getD (OE.cs a2) ((0+Int.toNat x0)*1) AV.undef=iZ x3/\∃ a4:OE,zA5.cells (zP9 cs) 3 1 false=zA5.cells (OE.cs a4) 3 1 (OE.g a4)/\((0:Int)<=x0/\(x0:Int)<(List.length ls:Int))/\∃ a5:OE,zA5.cells (zP9 cs) 3 1 false=zA5.cells (OE.cs a5) 3 1 (OE.g a5)/\((((0+(Int.toNat x0))*1)+1):Nat)<=List.length (OE.cs a5)/\∃ x'6:Y81,(I x'6/\LS.μ (zbH ls o I No) x'6<LS.μ (zbH ls o I No) (Y81.mk cs i))/\Rf (TV.v (AV.slice 1 (lsV ls) Cap.any))/\Rf (TV.v (AV.slice 1 (zP9 o) Cap.any))/\Rf (TV.v (AV.rslice 0 0 (List.length ls)))/\Rf (TV.v (AV.slice 1 (zP9 o) Cap.any))/\Rf (TV.v (iZ (List.length o:Int)))/\TV.v (iZ (IntKind.wrap .i64 ((i:Int)+1)))=TV.v (iZ (Y81.i x'6:Int))/\zA6.Le ((zbH ls o I No).3 x'6) (zA6.set (zA6.new zJZ (zA5.cells (zP9 cs) 3 1 false)) 0 (zA5.cells (zAF (OE.cs a5) ((0+(Int.toNat x0))*1) [iZ (IntKind.wrap .i64 (x3+1))]) 3 1 (OE.g a5))))))
 (((i<List.length o)->False)/\Rf (TV.v (AV.slice 1 (lsV ls) Cap.any))/\Rf (TV.v (AV.slice 1 (zP9 o) Cap.any))/\Rf (TV.v (AV.rslice 0 0 (List.length ls)))/\zA6.Le (zA6.new zJZ (zA5.cells (zP9 cs) 3 1 false)) (zA6.new zJZ (zA5.cells (zP9 cs) 3 1 false)))):=by kernel_rfl
def zbK (ls:List (List T)) (o:List Int) (cs:List Int) (I:Nat->Prop) (No:Prop):LS Nat where
 F j:=[(0,.v (.slice 1 (lsV ls) .any)),(1,.v (.slice 1 (zP9 o) .any)),(7,.v (.rslice 0 0 ls.length)),(48,.v (.slice 1 (lsV ls) .any)),(49,.v (iZ (ls.length:Int))),(50,.v (iZ (j:Int)))]
 FL _:=[]
 S _:=stC cs
 I:=I
 μ j:=ls.length - j
 Ex j e a σ:=match e with
  | .exit 2=>¬ (j<ls.length)/\atF a [(0,.v (.slice 1 (lsV ls) .any)),(1,.v (.slice 1 (zP9 o) .any))] [] True
  | .ret=>No/\atF a [(4,.v .nilslice),(5,.v (iZ 1))] [] True
  | _=>False
theorem vc37b (ls:List (List T)) (o:List Int) (cs:List Int) (I:Nat->Prop) (No:Prop) (j:Nat):(wpX [] (EV B w0 G) (H0 (EV B w0 G)) nL (zHI 37) N37 (lB 37 1) ((zbK ls o cs I No).post j) (frm ((zbK ls o cs I No).F j) []) (stC cs)) =
 (bcase (decide ((j:Int)<(List.length ls:Int)))
 (((0:Int)<=(j:Int)/\(j:Int)<(List.length (lsV ls):Int))/\∃ x0:List T,AV.vptr (AV.cells (List.getD (lsV ls) (Int.toNat (↑j:Int)) AV.undef))=AV.vptr [sT x0]/\∃ a1:OE,zA5.cells (zP9 cs) 3 1 false=zA5.cells (OE.cs a1) 3 1 (OE.g a1)/\((0:Int)<=(j:Int)/\(j:Int)<(List.length ls:Int))/\∃ a2:OE,zA5.cells (zP9 cs) 3 1 false=zA5.cells (OE.cs a2) 3 1 (OE.g a2)/\(((0+(Int.toNat (j:Int)))*1):Nat)<List.length (OE.cs a2)/\∃ x3:Int,List.getD (OE.cs a2) ((0+Int.toNat (↑j:Int))*1) AV.undef=iZ x3/\bcase ((x3:Int) != (List.length (tcellL x0):Int))
 (No /\Rf (TV.v AV.nilslice)/\Rf (TV.v (iZ 1))/\True)
 (∃ x'4:Nat,(I x'4/\LS.μ (zbK ls o cs I No) x'4<LS.μ (zbK ls o cs I No) j)/\Rf (TV.v (AV.slice 1 (lsV ls) Cap.any))/\Rf (TV.v (AV.slice 1 (zP9 o) Cap.any))/\Rf (TV.v (AV.rslice 0 0 (List.length ls)))/\Rf (TV.v (AV.slice 1 (lsV ls) Cap.any))/\Rf (TV.v (iZ (List.length ls:Int)))/\TV.v (iZ (IntKind.wrap .i64 ((j:Int)+1)))=TV.v (iZ (x'4:Int))/\zA6.Le ((zbK ls o cs I No).3 x'4) (zA6.new zJZ (zA5.cells (zP9 cs) 3 1 false))))
 (((j<List.length ls)->False)/\Rf (TV.v (AV.slice 1 (lsV ls) Cap.any))/\Rf (TV.v (AV.slice 1 (zP9 o) Cap.any))/\True)):=by kernel_rfl
def zbL (ls:List (List T)) (o:List Int) (I:zUC->Prop):LS zUC where
 F y:=[(0,.v (.slice 1 (lsV ls) .any)),(14,.v y.v),(15,.v (iZ (2*(y.i:Int)))),(71,.v (.slice 1 (zP9 o) .any)),(72,.v (iZ (o.length:Int))),(73,.v (iZ (y.i:Int)))]
 FL _:=[]
 S y:=y.σ
 I:=I
 μ y:=o.length - y.i
 Ex y e a σ:=match e with
  | .exit 4=>¬ (y.i<o.length)/\atF a [(0,.v (.slice 1 (lsV ls) .any)),(14,.v y.v),(15,.v (iZ (2*(y.i:Int))))] [] (y.σ.Le σ)
  | _=>False
theorem vc37c (ls:List (List T)) (o:List Int) (I:zUC->Prop) (σ:zA6) (v:AV) (i:Nat):(wpX [] (EV B w0 G) (H0 (EV B w0 G)) nL (zHI 37) N37 (lB 37 2) ((zbL ls o I).post ⟨σ,v,i⟩) (frm ((zbL ls o I).F ⟨σ,v,i⟩) []) σ) =
 (bcase (decide ((i:Int)<(List.length o:Int)))
 (((0:Int)<=(i:Int)/\(i:Int)<(List.length (zP9 o):Int))/\∃ x0:Int,AV.vptr (AV.cells (List.getD (zP9 o) (Int.toNat (↑i:Int)) AV.undef))=AV.vptr [iZ x0]/\((v=AV.nilslice/\Bd0 32 2/\∃ x'1:zUC,(I x'1/\LS.μ (zbL ls o I) x'1<LS.μ (zbL ls o I) (zUC.mk σ v i))/\Rf (TV.v (AV.slice 1 (lsV ls) Cap.any))/\TV.v (AV.rslice (zA6.next σ) 0 2)=TV.v (zUC.v x'1)/\TV.v (iZ (IntKind.wrap .i64 ((2*(i:Int))+2)))=TV.v (iZ (2*(zUC.i x'1:Int)))/\Rf (TV.v (AV.slice 1 (zP9 o) Cap.any))/\Rf (TV.v (iZ (List.length o:Int)))/\TV.v (iZ (IntKind.wrap .i64 ((i:Int)+1)))=TV.v (iZ (zUC.i x'1:Int))/\zA6.Le ((zbL ls o I).3 x'1) (zA6.new σ (zA5.cells [iZ (2*(i:Int)),iZ x0,iZ (IntKind.wrap .i64 ((2*(i:Int))+1)),iZ (-1)] 119 2 true)))\/∃ x1:RS,v=AV.rslice (RS.id x1) 0 (RS.n x1)/\∃ a2:OE,zA6.objs σ (RS.id x1)=zA5.cells (OE.cs a2) 119 2 (OE.g a2)/\((0:Nat)=0/\Bd ((RS.n x1)+2) 16/\(((RS.n x1)*2):Nat)<=List.length (OE.cs a2))/\∃ x'3:zUC,(I x'3/\LS.μ (zbL ls o I) x'3<LS.μ (zbL ls o I) (zUC.mk σ v i))/\Rf (TV.v (AV.slice 1 (lsV ls) Cap.any))/\TV.v (AV.rslice (zA6.next σ) 0 ((RS.n x1)+2))=TV.v (zUC.v x'3)/\TV.v (iZ (IntKind.wrap .i64 ((2*(i:Int))+2)))=TV.v (iZ (2*(zUC.i x'3:Int)))/\Rf (TV.v (AV.slice 1 (zP9 o) Cap.any))/\Rf (TV.v (iZ (List.length o:Int)))/\TV.v (iZ (IntKind.wrap .i64 ((i:Int)+1)))=TV.v (iZ (zUC.i x'3:Int))/\zA6.Le ((zbL ls o I).3 x'3) (zA6.new (zA6.set σ (RS.id x1) zA5.dead) (zA5.cells ((List.take ((RS.n x1)*2) (OE.cs a2))++[iZ (2*(i:Int)),iZ x0,iZ (IntKind.wrap .i64 ((2*(i:Int))+1)),iZ (-1)]) 119 2 true))))
 (((i<List.length o)->False)/\Rf (TV.v (AV.slice 1 (lsV ls) Cap.any))/\Rf (TV.v v)/\Rf (TV.v (iZ (2*(i:Int))))/\zA6.Le σ σ)):=by kernel_rfl
def zbM (m n:Nat) (I:zUC->Prop):LS zUC where
 F y:=[(14,.v y.v),(15,.v (iZ (((m+n:Nat):Int) - (y.i:Int)))),(18,.v (iZ (y.i:Int)))]
 FL _:=[]
 S y:=y.σ
 I:=I
 μ y:=y.i
 Ex y e a σ:=match e with
  | .exit 6=>y.i=0/\atF a [(14,.v y.v),(15,.v (iZ (((m+n:Nat):Int) - (y.i:Int))))] [] (y.σ.Le σ)
  | _=>False
theorem vc37d (m n:Nat) (I:zUC->Prop) (σ:zA6) (v:AV) (i:Nat):(wpX [] (EV B w0 G) (H0 (EV B w0 G)) nL (zHI 37) N37 (lB 37 3) ((zbM m n I).post ⟨σ,v,i⟩) (frm ((zbM m n I).F ⟨σ,v,i⟩) []) σ) =
 (bcase (decide ((i:Int) > 0))
 ((v=AV.nilslice/\Bd0 16 1/\∃ x'0:zUC,(I x'0/\LS.μ (zbM m n I) x'0<LS.μ (zbM m n I) (zUC.mk σ v i))/\TV.v (AV.rslice (zA6.next σ) 0 1)=TV.v (zUC.v x'0)/\TV.v (iZ (IntKind.wrap .i64 (((((m+n):Nat):Int) - (i:Int))+1)))=TV.v (iZ ((((m+n):Nat):Int) - (zUC.i x'0:Int)))/\TV.v (iZ (IntKind.wrap .i64 ((i:Int) - 1)))=TV.v (iZ (zUC.i x'0:Int))/\zA6.Le ((zbM m n I).3 x'0) (zA6.new σ (zA5.cells [iZ ((((m+n):Nat):Int) - (i:Int)),iZ (i:Int)] 119 2 true)))\/∃ x0:RS,v=AV.rslice (RS.id x0) 0 (RS.n x0)/\∃ a1:OE,zA6.objs σ (RS.id x0)=zA5.cells (OE.cs a1) 119 2 (OE.g a1)/\((0:Nat)=0/\Bd ((RS.n x0)+1) 16/\(((RS.n x0)*2):Nat)<=List.length (OE.cs a1))/\∃ x'2:zUC,(I x'2/\LS.μ (zbM m n I) x'2<LS.μ (zbM m n I) (zUC.mk σ v i))/\TV.v (AV.rslice (zA6.next σ) 0 ((RS.n x0)+1))=TV.v (zUC.v x'2)/\TV.v (iZ (IntKind.wrap .i64 (((((m+n):Nat):Int) - (i:Int))+1)))=TV.v (iZ ((((m+n):Nat):Int) - (zUC.i x'2:Int)))/\TV.v (iZ (IntKind.wrap .i64 ((i:Int) - 1)))=TV.v (iZ (zUC.i x'2:Int))/\zA6.Le ((zbM m n I).3 x'2) (zA6.new (zA6.set σ (RS.id x0) zA5.dead) (zA5.cells ((List.take ((RS.n x0)*2) (OE.cs a1))++[iZ ((((m+n):Nat):Int) - (i:Int)),iZ (i:Int)]) 119 2 true)))
 (i=0/\Rf (TV.v v)/\Rf (TV.v (iZ ((((m+n):Nat):Int) - (i:Int))))/\zA6.Le σ σ)):=by kernel_rfl
def T37a (ls:List (List T)) (o:List Int) (I R:Y81->Prop) (No:Prop):zFV:=fun _ Q a σ=>∃ y:Y81,I y/\atF a ((zbH ls o I No).F y) [] ((stC y.cs).Le σ)/\((∀ y':Y81,R y'->Q (.exit 0) (frm [(0,.v (.slice 1 (lsV ls) .any)),(1,.v (.slice 1 (zP9 o) .any)),(7,.v (.rslice 0 0 ls.length))] []) (stC y'.cs))/\(No->∀ σ':zA6,Q .ret (frm (retF 1) []) σ'))
def T37b (ls:List (List T)) (o:List Int) (P:List Int->Nat->Prop) (Yes:Prop) (No:Prop):zFV:=fun _ Q a σ=>∃ cs:List Int,P cs 0/\atF a ((zbK ls o cs (P cs) No).F 0) [] ((stC cs).Le σ)/\((Yes->∀ σ':zA6,Q (.exit 2) (frm (argF ls o) []) σ')/\(No->∀ σ':zA6,Q .ret (frm (retF 1) []) σ'))
def T37c (ls:List (List T)) (o:List Int) (I R:zUC->Prop):zFV:=fun _ Q a σ=>∃ y:zUC,I y/\atF a ((zbL ls o I).F y) [] (y.σ.Le σ)/\∀ y':zUC,R y'->Q (.exit 4) (frm [(0,.v (.slice 1 (lsV ls) .any)),(14,.v y'.v),(15,.v (iZ (2*(o.length:Int))))] []) y'.σ
def T37d (m n:Nat) (I R:zUC->Prop):zFV:=fun _ Q a σ=>∃ y:zUC,I y/\atF a ((zbM m n I).F y) [] (y.σ.Le σ)/\∀ y':zUC,R y'->Q (.exit 6) (frm [(14,.v y'.v),(15,.v (iZ ((m+n:Nat):Int)))] []) y'.σ
theorem vc37 (ls:List (List T)) (o:List Int) (I R:Y81->Prop) (P:List Int->Nat->Prop) (Yes No:Prop) (Ic Rc Id Rd:zUC->Prop) (Q:AV->zA6->Prop):(zKD [] (EV B w0 G) (hnd (EV B w0 G) zHI zMU [(74,C74'),(75,C75)]) (zKK [(6,T37a ls o I R No),(13,T37b ls o P Yes No),(24,T37c ls o Ic Rc),(30,T37d (2*o.length) ls.length Id Rd)]) zHI N37 37 [.slice 1 (lsV ls) .any,.slice 1 (zP9 o) .any] zJZ Q) =
 (∃ ls0:List (List T),[AV.slice 1 (lsV ls) Cap.any]=[AV.slice 1 (lsV ls0) Cap.any]/\(List.length ls0<=1000000/\(∀ l1:List T,((l1∈ls0)->(List.length l1<=1000000))))/\bcase (((zR2 ls0):Int) != 0)
 (Q (AV.tuple [AV.nilslice,iZ (zR2 ls0)]) (Ut zJZ))
 (((0:Int)<=(List.length (lsV ls):Int)/\(List.length (lsV ls):Int)<=(List.length (lsV ls):Int)/\((8*(List.length (lsV ls):Int)):Int)<=140737488355328/\(List.length (lsV ls):Int)<=4611686018427387904)/\∃ y1:Y81,I y1/\(Rf (TV.v (AV.slice 1 (lsV ls) Cap.any))/\Rf (TV.v (AV.slice 1 (zP9 o) Cap.any))/\TV.v (AV.rslice 0 0 (Int.toNat (List.length (lsV ls):Int)))=TV.v (AV.rslice 0 0 (List.length ls))/\Rf (TV.v (AV.slice 1 (zP9 o) Cap.any))/\TV.v (iZ (List.length (zP9 o):Int))=TV.v (iZ (List.length o:Int))/\TV.v (iZ 0)=TV.v (iZ (Y81.i y1:Int))/\zA6.Le (zA6.new zJZ (zA5.cells (zP9 (Y81.cs y1)) 3 1 false)) (zA6.new (Ut zJZ) (zA5.cells (List.flatten (List.replicate (Int.toNat (↑(List.length (lsV ls)):Int)) (AV.cells (av (Go.Value.int IntKind.i64 0))))) 3 1 false)))/\(∀ y'2:Y81,((R y'2)->(∃ cs3:List Int,P cs3 0/\(Rf (TV.v (AV.slice 1 (lsV ls) Cap.any))/\Rf (TV.v (AV.slice 1 (zP9 o) Cap.any))/\Rf (TV.v (AV.rslice 0 0 (List.length ls)))/\Rf (TV.v (AV.slice 1 (lsV ls) Cap.any))/\TV.v (iZ (List.length (lsV ls):Int))=TV.v (iZ (List.length ls:Int))/\Rf (TV.v (iZ 0))/\zA6.Le (zA6.new zJZ (zA5.cells (zP9 cs3) 3 1 false)) (zA6.new zJZ (zA5.cells (zP9 (Y81.cs y'2)) 3 1 false)))/\((Yes )->(∀ σ'4:zA6,∃ ls5:List (List T),[AV.slice 1 (lsV ls) Cap.any]=[AV.slice 1 (lsV ls5) Cap.any]/\((List.length ls5<=1000000/\(∀ l6:List T,((l6∈ls5)->(List.length l6<=1000000))))/\((zR2 ls5):Int)=0)/\bcase (((za4 ls5):Int) != 0)
 (Q (AV.tuple [AV.nilslice,iZ (za4 ls5)]) (Ut σ'4))
 (∃ y6:zUC,Ic y6/\(Rf (TV.v (AV.slice 1 (lsV ls) Cap.any))/\TV.v AV.nilslice=TV.v (zUC.v y6)/\TV.v (iZ 0)=TV.v (iZ (2*(zUC.i y6:Int)))/\Rf (TV.v (AV.slice 1 (zP9 o) Cap.any))/\TV.v (iZ (List.length (zP9 o):Int))=TV.v (iZ (List.length o:Int))/\TV.v (iZ 0)=TV.v (iZ (zUC.i y6:Int))/\zA6.Le y6.1 (Ut σ'4))/\(∀ y'7:zUC,((Rc y'7)->(∃ y8:zUC,Id y8/\(TV.v (zUC.v y'7)=TV.v (zUC.v y8)/\TV.v (iZ (2*(List.length o:Int)))=TV.v (iZ (((((2*(List.length o))+(List.length ls)):Nat):Int) - (zUC.i y8:Int)))/\TV.v (iZ (List.length (lsV ls):Int))=TV.v (iZ (zUC.i y8:Int))/\zA6.Le y8.1 y'7.1)/\(∀ y'9:zUC,((Rd y'9)->((zUC.v y'9=AV.nilslice/\Bd0 32 2/\Q (AV.tuple [AV.rslice (zA6.next y'9.1) 0 2,iZ 0]) (zA6.new y'9.1 (zA5.cells [iZ ((((2*(List.length o))+(List.length ls)):Nat):Int),iZ 0,iZ (IntKind.wrap .i64 (((((2*(List.length o))+(List.length ls)):Nat):Int)+1)),iZ (-1)] 119 2 true)))\/∃ x10:RS,zUC.v y'9=AV.rslice (RS.id x10) 0 (RS.n x10)/\∃ a11:OE,zA6.objs y'9.1 (RS.id x10)=zA5.cells (OE.cs a11) 119 2 (OE.g a11)/\((0:Nat)=0/\Bd ((RS.n x10)+2) 16/\(((RS.n x10)*2):Nat)<=List.length (OE.cs a11))/\Q (AV.tuple [AV.rslice (zA6.next y'9.1) 0 ((RS.n x10)+2),iZ 0]) (zA6.new (zA6.set y'9.1 (RS.id x10) zA5.dead) (zA5.cells ((List.take ((RS.n x10)*2) (OE.cs a11))++[iZ ((((2*(List.length o))+(List.length ls)):Nat):Int),iZ 0,iZ (IntKind.wrap .i64 (((((2*(List.length o))+(List.length ls)):Nat):Int)+1)),iZ (-1)]) 119 2 true)))))))))))/\((No )->(∀ σ'4:zA6,Q (AV.tuple [AV.nilslice,iZ 1]) σ'4)))))/\((No )->(∀ σ'2:zA6,Q (AV.tuple [AV.nilslice,iZ 1]) σ'2)))):=by kernel_rfl
end Go.V
namespace Go.V
open Go Go.Proofs

theorem zbN (a b:List (Int×Int)):zA0 (zZF (a++b))=zA0 (zZF a)++zA0 (zZF b):=by
 unfold zZF; rw [List.map_append,zC4]
theorem zbO (P:Program) (σ:zA6) (n:Nat):∀ l:List (Int×Int),(l.map fun x=>AV.agg [iZ x.1,iZ x.2]).mapM (deep P σ (n+2))=some (l.map fun x=>AV.agg [iZ x.1,iZ x.2])
 | []=>rfl
 | x :: l=>by
  rw [List.map_cons,List.mapM_cons,zbO P σ n l]; rfl
theorem kind119:zAC Tryz.prog 119=some (some 2):=by kernel_rfl
def OutM (σ:zA6) (v:AV) (l:List (Int×Int)):Prop:=zaI 119 2 σ v l.length (zA0 (zZF l))
theorem OutM.deep {σ:zA6} {v:AV} {l:List (Int×Int)} (h:OutM σ v l):∃ v',deep Tryz.prog σ 3 v=some v'/\Wk v' (.slice 2 (zZF l) .any) :=
 zaI.deep (m:=2) (fun x:Int×Int=>[iZ x.1,iZ x.2]) l (fun _=>rfl) (by omega) kind119 (zbO _ _ 0 l) h
theorem zbP {σ:zA6} {v v':AV} {e:Int} {n:Nat} (h:Go.V.deep Tryz.prog σ (n+1) v=some v'):Go.V.deep Tryz.prog σ (n+2) (.tuple [v,iZ e])=some (.tuple [v',iZ e]):=by
 have e1:Go.V.deep Tryz.prog σ (n+2) (.tuple [v,iZ e])=(([v,iZ e]:List AV).mapM (Go.V.deep Tryz.prog σ (n+1))).map .tuple:=rfl
 have h2:Go.V.deep Tryz.prog σ (n+1) (iZ e)=some (iZ e):=rfl
 rw [e1]
 simp only [List.mapM_cons,List.mapM_nil,h,h2,Option.bind_eq_bind,Option.bind_some,Option.pure_def,Option.map_some]
section
variable {B:Nat} {w0:World} {G:Nat->AV}
theorem loop37a {ls:List (List T)} {o:List Int} {No:Prop} {lp:Code} (hlp:lp = .loop (lB 37 0)) (hl:ls.length<=1000000) (ho:o.length<=1099511627776) (hNo:zZL ls.length o=false->No) {Q:zDW} {a:zDN} {σ:zA6}
  (k:T37a ls o (fun y=>y.i<=o.length/\zZV ls.length y.cs (o.take y.i)/\zZL ls.length (o.take y.i)=true) (fun y=>zZV ls.length y.cs o/\zZL ls.length o=true) No lp Q a σ):AWp (EV B w0 G) none (zJ8 Tryz.prog 37) lp Q a σ:=by
 subst hlp
 obtain ⟨y0,hI0,hat,hR1,hR2⟩:=k
 refine zK5 (zbH ls o (fun y=>y.i<=o.length/\zZV ls.length y.cs (o.take y.i)/\zZL ls.length (o.take y.i)=true) No) (x0:=y0) (fun y hI => ?_) (fun y hI e a' σ hne kk => ?_) hI0 hat
 ·obtain ⟨cs,i⟩:=y
  obtain ⟨hi,hc,hr⟩:=hI
  change i<=o.length at hi
  change zZV ls.length cs (o.take i) at hc
  change zZL ls.length (o.take i)=true at hr
  have hcl:=hc.len
  have hll:=zQF ls
  refine zP3 zMZ (zKM B w0 G) (by kernel_rfl) ((vc37a B w0 G ls o _ No cs i).mpr (zE2 (fun h => ?_) (fun h=>⟨fun h2 => ?_,rfl,rfl,rfl,.refl _⟩)))
  ·have h:(i:Int)<(o.length:Int):=of_decide_eq_true h
   have hi2:i<o.length:=by omega
   have hrg:(0:Int)<=(i:Int)/\(i:Int)<((zP9 o).length:Int):=⟨by omega,by rw [zPA]; omega⟩
   have hg:AV.vptr (AV.cells (List.getD (zP9 o) (Int.toNat (i:Int)) AV.undef)) = .vptr [iZ o[i]]:=by rw [Int.toNat_natCast]; exact zPB hi2
   have hst:=zZT (n:=ls.length) hi2
   rw [hr,Bool.true_and] at hst
   have bad:(decide (0<=o[i])&&decide (o[i]<(ls.length:Int)))=false->No:=fun h=>hNo (by
    unfold zZL
    exact zWI (P:=fun x=>decide (0<=x)&&decide (x<(ls.length:Int))) hi2 h)
   refine ⟨hrg,o[i],hg,zE2 (fun h1=>⟨bad ?_,rfl,rfl,trivial⟩) (fun h1=>zE2 (fun h2=>⟨bad ?_,rfl,rfl,trivial⟩) (fun h2 => ?_))⟩
   ·rw [decide_eq_false (show ¬ 0<=o[i] by have:=of_decide_eq_true h1; omega)]; rfl
   ·rw [hll] at h2
    rw [decide_eq_false (show ¬ o[i]<(ls.length:Int) by have:=of_decide_eq_true h2; omega)]; simp
   ·have h1:=of_decide_eq_false h1
    rw [hll] at h2
    have h2:=of_decide_eq_false h2
    obtain ⟨k,hk⟩:∃ k:Nat,o[i]=(k:Int):=⟨o[i].toNat,by omega⟩
    have hkn:k<ls.length:=by omega
    have hz:(zP9 cs).getD k .undef=iZ (cs.getD k 0):=zR4 (by omega)
    have hcc:=hc.cnt k hkn
    have hcle:=zZU (o.take i) k
    rw [List.length_take] at hcle
    have hrk:(0:Int)<=o[i]/\o[i]<(ls.length:Int):=⟨by omega,by omega⟩
    have htn:(0+Int.toNat o[i])*1=k:=by omega
    refine ⟨⟨zP9 cs,false⟩,rfl,hrk,⟨zP9 cs,false⟩,rfl,by rw [htn]; show k<(zP9 cs).length; rw [zPA]; omega,cs.getD k 0,by rw [htn]; exact hz,⟨zP9 cs,false⟩,rfl,hrk,⟨zP9 cs,false⟩,rfl,by rw [htn]; show k+1<=(zP9 cs).length; rw [zPA]; omega,⟨cs.set k (cs.getD k 0+1),i+1⟩,⟨⟨hi2,hc.step hi2 hk hkn,?_⟩,?_⟩,rfl,rfl,rfl,rfl,rfl,?_,?_⟩
    ·show zZL ls.length (o.take (i+1))=true
     rw [hst,decide_eq_true hrk.1,decide_eq_true hrk.2]; rfl
    ·show o.length - (i+1)<o.length - i
     omega
    ·exact congrArg (fun z=>TV.v (iZ z)) (wI1 hi2 (by omega))
    ·rw [htn,zN8 (by omega) (by omega)]
     dsimp only
     rw [zPD (by rw [zPA]; omega),zR3,zZW]
     exact .refl _
  ·have h:¬ (i:Int)<(o.length:Int):=of_decide_eq_false h
   have h2:i<o.length:=h2
   omega
 ·obtain ⟨cs,i⟩:=y
  obtain ⟨hi,hc,hr⟩:=hI
  change i<=o.length at hi
  change zZV ls.length cs (o.take i) at hc
  change zZL ls.length (o.take i)=true at hr
  cases e with
  | exit j =>
   match j,kk with
   | 0,kk =>
    have hk:¬ i<o.length:=kk.1
    rw [show i=o.length by omega,List.take_length] at hc hr
    exact ⟨_,_,(zJM kk.2).1,(zJM kk.2).2,hR1 ⟨cs,i⟩ ⟨hc,hr⟩⟩
  | ret=>exact ⟨_,σ,(zJM kk.2).1,.refl _,hR2 kk.1 σ⟩
  | normal=>exact absurd rfl hne
  | _=>exact kk.elim
theorem loop37b {ls:List (List T)} {o:List Int} {Yes No:Prop} {lp:Code} (hlp:lp = .loop (lB 37 1)) (hl:ls.length<=1000000) (ho:o.length<=1099511627776) (hls:∀ l∈ls,l.length<=1000000) (hNo:okN ls o ls.length=false->No) (hYes:okN ls o ls.length=true->Yes) {Q:zDW} {a:zDN} {σ:zA6}
  (k:T37b ls o (fun cs j=>j<=ls.length/\zZV ls.length cs o/\okN ls o j=true) Yes No lp Q a σ):AWp (EV B w0 G) none (zJ8 Tryz.prog 37) lp Q a σ:=by
 subst hlp
 obtain ⟨cs,hI0,hat,hR1,hR2⟩:=k
 refine zK5 (zbK ls o cs (fun j=>j<=ls.length/\zZV ls.length cs o/\okN ls o j=true) No) (x0:=0) (fun j hI => ?_) (fun j hI e a' σ hne kk => ?_) hI0 hat
 ·obtain ⟨hj,hc,hr⟩:j<=ls.length/\zZV ls.length cs o/\okN ls o j=true:=hI
  have hcl:=hc.len
  have hll:=zQF ls
  refine zP3 zMZ (zKM B w0 G) (by kernel_rfl) ((vc37b B w0 G ls o cs _ No j).mpr (zE2 (fun h => ?_) (fun h=>⟨fun h2 => ?_,rfl,rfl,trivial⟩)))
  ·have h:(j:Int)<(ls.length:Int):=of_decide_eq_true h
   have hj2:j<ls.length:=by omega
   have hz:(zP9 cs).getD j .undef=iZ (cs.getD j 0):=zR4 (by omega)
   have hcc:=hc.cnt j hj2
   have hgd:ls.getD j []=ls[j]:=by rw [List.getD_eq_getElem?_getD,List.getElem?_eq_getElem hj2]; rfl
   have hst:=zZX ls o j
   rw [hr,Bool.true_and,hgd] at hst
   refine ⟨⟨by omega,by rw [hll]; omega⟩,ls[j],by rw [Int.toNat_natCast,zQG hj2]; rfl,⟨zP9 cs,false⟩,rfl,⟨by omega,by omega⟩,⟨zP9 cs,false⟩,rfl,by rw [idx1]; show j<(zP9 cs).length; rw [zPA]; omega,cs.getD j 0,by rw [idx1]; exact hz,zE2 (fun h1=>⟨hNo (zZY hj2 ?_),rfl,rfl,trivial⟩) (fun h1=>⟨j+1,⟨⟨hj2,hc,?_⟩,?_⟩,rfl,rfl,rfl,rfl,rfl,?_,.refl _⟩)⟩
   ·rw [zMH,hcc,bne_iff_ne] at h1
    rw [hgd]
    exact fun e=>h1 (by rw [e])
   ·rw [zMH,hcc,bne_eq_false_iff_eq] at h1
    rw [hst,decide_eq_true (by omega)]
   ·show ls.length - (j+1)<ls.length - j
    omega
   ·rw [wI1 hj2 (by omega)]
  ·have h:¬ (j:Int)<(ls.length:Int):=of_decide_eq_false h
   omega
 ·obtain ⟨hj,hc,hr⟩:j<=ls.length/\zZV ls.length cs o/\okN ls o j=true:=hI
  cases e with
  | exit n =>
   match n,kk with
   | 2,kk =>
    have hk:¬ j<ls.length:=kk.1
    rw [show j=ls.length by omega] at hr
    exact ⟨_,σ,(zJM kk.2).1,.refl _,hR1 (hYes hr) σ⟩
  | ret=>exact ⟨_,σ,(zJM kk.2).1,.refl _,hR2 kk.1 σ⟩
  | normal=>exact absurd rfl hne
  | _=>exact kk.elim
theorem loop37c {ls:List (List T)} {o:List Int} {lp:Code} (hlp:lp = .loop (lB 37 2)) (ho:o.length<=1099511627776) {Q:zDW} {a:zDN} {σ:zA6}
  (k:T37c ls o (fun y=>y.i<=o.length/\OutM y.σ y.v (za9 0 (o.take y.i))) (fun y=>OutM y.σ y.v (za9 0 o)) lp Q a σ):AWp (EV B w0 G) none (zJ8 Tryz.prog 37) lp Q a σ:=by
 subst hlp
 obtain ⟨y0,hI0,hat,hR⟩:=k
 refine zK5 (zbL ls o (fun y=>y.i<=o.length/\OutM y.σ y.v (za9 0 (o.take y.i)))) (x0:=y0) (fun y hI => ?_) (fun y hI e a' σ hne kk => ?_) hI0 hat
 ·obtain ⟨σy,v,i⟩:=y
  obtain ⟨hi,hO⟩:=hI
  change i<=o.length at hi
  change OutM σy v (za9 0 (o.take i)) at hO
  unfold OutM at hO
  rw [zaF,List.length_take,Nat.min_eq_left hi] at hO
  refine zP3 zMZ (zKM B w0 G) (by kernel_rfl) ((vc37c B w0 G ls o _ σy v i).mpr (zE2 (fun h => ?_) (fun h=>⟨fun h2 => ?_,rfl,rfl,rfl,.refl _⟩)))
  ·have h:(i:Int)<(o.length:Int):=of_decide_eq_true h
   have hi2:i<o.length:=by omega
   have w1:IntKind.wrap .i64 (2*(i:Int)+1)=((2*i:Nat):Int)+1:=by rw [zN8 (by omega) (by omega)]; omega
   have w2:IntKind.wrap .i64 (2*(i:Int)+2)=2*((i+1:Nat):Int):=by rw [zN8 (by omega) (by omega)]; omega
   have e0:(2*(i:Int))=((2*i:Nat):Int):=by omega
   have ec:([iZ (2*(i:Int)),iZ o[i],iZ (IntKind.wrap .i64 (2*(i:Int)+1)),iZ (-1)]:List AV)=zA0 (zZF [(((2*i:Nat):Int),o[i]),(((2*i:Nat):Int)+1,-1)]):=by rw [w1,e0]; rfl
   have hstep:∀ (σ1:zA6) (v1:AV),zaI 119 2 σ1 v1 (2*i+2) (zA0 (zZF (za9 0 (o.take i)))++[iZ (2*(i:Int)),iZ o[i],iZ (IntKind.wrap .i64 (2*(i:Int)+1)),iZ (-1)])->OutM σ1 v1 (za9 0 (o.take (i+1))):=fun σ1 v1 h=>by
    unfold OutM
    rw [zaF,zaE hi2,zbN,<-ec,List.length_take,Nat.min_eq_left (by omega),show 2*(i+1)=2*i+2 by omega]
    exact h
   refine ⟨⟨by show (0:Int)<=(i:Int); omega,by rw [zPA]; exact h⟩,o[i],by show AV.vptr (AV.cells (List.getD (zP9 o) (Int.toNat (i:Int)) AV.undef))=_; rw [Int.toNat_natCast]; exact zPB hi2,?_⟩
   rcases hO with ⟨rfl,h0,h1⟩ | ⟨id,cs,g,rfl,hlt,hob,hcl,hcs⟩
   ·refine .inl ⟨rfl,⟨by omega,by omega⟩,⟨_,.rslice σy.next 0 2,i+1⟩,⟨⟨hi2,hstep _ _ ?_⟩,?_⟩,rfl,rfl,congrArg (fun z=>TV.v (iZ z)) w2,rfl,rfl,congrArg (fun z=>TV.v (iZ z)) (wI1 hi2 (by omega)),.refl _⟩
    ·have:=zaI.first (tid:=119) (sz:=2) (k:=2) (σ:=σy) (new:=[iZ (2*(i:Int)),iZ o[i],iZ (IntKind.wrap .i64 (2*(i:Int)+1)),iZ (-1)]) h0 h1 rfl
     exact this
    ·show o.length - (i+1)<o.length - i
     omega
   ·refine .inr ⟨⟨id,2*i⟩,rfl,⟨cs,g⟩,hob,⟨rfl,⟨by show (2*i+2)*16<=_; omega,by show 2*i+2<=_; omega⟩,hcl⟩,⟨_,.rslice σy.next 0 (2*i+2),i+1⟩,⟨⟨hi2,hstep _ _ ?_⟩,?_⟩,rfl,rfl,congrArg (fun z=>TV.v (iZ z)) w2,rfl,rfl,congrArg (fun z=>TV.v (iZ z)) (wI1 hi2 (by omega)),.refl _⟩
    ·exact zaI.more (k:=2) hcl hcs rfl
    ·show o.length - (i+1)<o.length - i
     omega
  ·have h:¬ (i:Int)<(o.length:Int):=of_decide_eq_false h
   have h2:i<o.length:=h2
   omega
 ·obtain ⟨σy,v,i⟩:=y
  obtain ⟨hi,hO⟩:=hI
  change i<=o.length at hi
  change OutM σy v (za9 0 (o.take i)) at hO
  cases e with
  | exit j =>
   match j,kk with
   | 4,kk =>
    obtain ⟨hk,hat⟩:=kk
    have hk:¬ i<o.length:=hk
    have hio:i=o.length:=by omega
    subst hio
    rw [List.take_length] at hO
    exact ⟨_,_,(zJM hat).1,(zJM hat).2,hR ⟨σy,v,o.length⟩ hO⟩
  | normal=>exact absurd rfl hne
  | _=>exact kk.elim
def zbQ (m n k:Nat):List (Int×Int):=(zaA m n).take (n - k)
theorem zbR {m n k:Nat} (h:k+1<=n):zbQ m n k=zbQ m n (k+1)++[(((m+(n - (k+1)):Nat):Int),((k+1:Nat):Int))]:=by
 obtain ⟨a,h1,h2⟩:=zaH m n (k+1) h
 unfold zbQ
 rw [h1,zaA,List.take_left' h2,show n - k=a.length+1 by omega]
 have e:a++(((m+(n - (k+1)):Nat):Int),((k+1:Nat):Int)) :: zaA (m+(n - (k+1))+1) k=(a++[(((m+(n - (k+1)):Nat):Int),((k+1:Nat):Int))])++zaA (m+(n - (k+1))+1) k:=by simp
 rw [e,List.take_left' (by simp)]
theorem zbS (m n:Nat):zbQ m n 0=zaA m n:=by
 unfold zbQ
 rw [List.take_of_length_le (by rw [zaG]; omega)]
theorem zbT (m n:Nat):zbQ m n n=[]:=by unfold zbQ; rw [Nat.sub_self]; rfl
theorem zbU {m n k:Nat} (h:k<=n):(zbQ m n k).length=n - k:=by unfold zbQ; rw [List.length_take,zaG]; omega
theorem loop37d {m n:Nat} {pre:List (Int×Int)} {lp:Code} (hlp:lp = .loop (lB 37 3)) (hm:m<=3000000000000) (hn:n<=1000000) (hpl:pre.length=m) {Q:zDW} {a:zDN} {σ:zA6}
  (k:T37d m n (fun y=>y.i<=n/\OutM y.σ y.v (pre++zbQ m n y.i)) (fun y=>OutM y.σ y.v (pre++zaA m n)) lp Q a σ):AWp (EV B w0 G) none (zJ8 Tryz.prog 37) lp Q a σ:=by
 subst hlp
 obtain ⟨y0,hI0,hat,hR⟩:=k
 refine zK5 (zbM m n (fun y=>y.i<=n/\OutM y.σ y.v (pre++zbQ m n y.i))) (x0:=y0) (fun y hI => ?_) (fun y hI e a' σ hne kk => ?_) hI0 hat
 ·obtain ⟨σy,v,i⟩:=y
  obtain ⟨hi,hO⟩:=hI
  change i<=n at hi
  change OutM σy v (pre++zbQ m n i) at hO
  unfold OutM at hO
  rw [List.length_append,zbU hi] at hO
  refine zP3 zMZ (zKM B w0 G) (by kernel_rfl) ((vc37d B w0 G m n _ σy v i).mpr (zE2 (fun h => ?_) (fun h=>⟨?_,rfl,rfl,.refl _⟩)))
  ·have h:(i:Int) > 0:=of_decide_eq_true h
   obtain ⟨k,rfl⟩:∃ k,i=k+1:=⟨i - 1,by omega⟩
   have e0:(((m+n:Nat):Int) - ((k+1:Nat):Int))=((m+(n - (k+1)):Nat):Int):=by omega
   have w1:IntKind.wrap .i64 ((((m+n:Nat):Int) - ((k+1:Nat):Int))+1)=((m+n:Nat):Int) - (k:Int):=by rw [zN8 (by omega) (by omega)]; omega
   have w2:IntKind.wrap .i64 (((k+1:Nat):Int) - 1)=(k:Int):=by rw [zN8 (by omega) (by omega)]; omega
   have ec:([iZ (((m+n:Nat):Int) - ((k+1:Nat):Int)),iZ ((k+1:Nat):Int)]:List AV)=zA0 (zZF [(((m+(n - (k+1)):Nat):Int),((k+1:Nat):Int))]):=by rw [e0]; rfl
   have hstep:∀ (σ1:zA6) (v1:AV),zaI 119 2 σ1 v1 (pre.length+(n - (k+1))+1) (zA0 (zZF (pre++zbQ m n (k+1)))++[iZ (((m+n:Nat):Int) - ((k+1:Nat):Int)),iZ ((k+1:Nat):Int)])->OutM σ1 v1 (pre++zbQ m n k):=fun σ1 v1 h=>by
    unfold OutM
    rw [zbR hi,<-List.append_assoc,zbN,<-ec,List.length_append,List.length_append,zbU hi]
    exact h
   rcases hO with ⟨rfl,h0,h1⟩ | ⟨id,cs,g,rfl,hlt,hob,hcl,hcs⟩
   ·refine .inl ⟨rfl,⟨by omega,by omega⟩,⟨_,.rslice σy.next 0 1,k⟩,⟨⟨by show k<=n; omega,hstep _ _ ?_⟩,?_⟩,rfl,congrArg (fun z=>TV.v (iZ z)) w1,congrArg (fun z=>TV.v (iZ z)) w2,.refl _⟩
    ·have:=zaI.first (tid:=119) (sz:=2) (k:=1) (σ:=σy) (new:=[iZ (((m+n:Nat):Int) - ((k+1:Nat):Int)),iZ ((k+1:Nat):Int)]) h0 h1 rfl
     rw [h0] at this ⊢
     exact this
    ·show k<k+1
     omega
   ·refine .inr ⟨⟨id,pre.length+(n - (k+1))⟩,rfl,⟨cs,g⟩,hob,⟨rfl,⟨by show (pre.length+(n - (k+1))+1)*16<=_; omega,by show pre.length+(n - (k+1))+1<=_; omega⟩,hcl⟩,⟨_,.rslice σy.next 0 (pre.length+(n - (k+1))+1),k⟩,⟨⟨by show k<=n; omega,hstep _ _ ?_⟩,?_⟩,rfl,congrArg (fun z=>TV.v (iZ z)) w1,congrArg (fun z=>TV.v (iZ z)) w2,.refl _⟩
    ·exact zaI.more (k:=1) hcl hcs rfl
    ·show k<k+1
     omega
  ·have h:¬ (i:Int) > 0:=of_decide_eq_false h
   show i=0
   omega
 ·obtain ⟨σy,v,i⟩:=y
  obtain ⟨hi,hO⟩:=hI
  change i<=n at hi
  change OutM σy v (pre++zbQ m n i) at hO
  cases e with
  | exit j =>
   match j,kk with
   | 6,kk =>
    obtain ⟨hk,hat⟩:=kk
    have hk:i=0:=hk
    subst hk
    rw [zbS] at hO
    refine ⟨_,_,(zJM hat).1,(zJM hat).2,?_⟩
    have:=hR ⟨σy,v,0⟩ hO
    rw [show (((m+n:Nat):Int) - (((zUC.mk σy v 0).i:Nat):Int))=((m+n:Nat):Int) by show _ - ((0:Nat):Int)=_; omega]
    exact this
  | normal=>exact absurd rfl hne
  | _=>exact kk.elim
end
end Go.V
