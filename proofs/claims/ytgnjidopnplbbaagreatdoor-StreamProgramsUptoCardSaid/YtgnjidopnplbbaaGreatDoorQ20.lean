/- A part of the proof of the statement S8 (texts brought together and shortened by a program of this work). -/
import Derived.Test.YtgnjidopnplbbaaGreatDoorQ19
import Derived.Test.YtgnjidopnplbbaaGreatDoorQ18
import Derived.Test.YtgnjidopnplbbaaGreatDoorQ14
set_option maxRecDepth 1000000
set_option linter.unusedVariables false
namespace Go.V
open Go Go.Proofs
variable (B:Nat) (w0:World) (G:Nat->AV)
def H103 (E:Env) (N:Nat):zDY:=hnd E zHI zMU [(129,C129),(130,C130 N),(148,C148)]
theorem vc103 (N:Nat) (t:T) (Q:AV->zA6->Prop):(zJ6 (EV B w0 G) (H103 (EV B w0 G) N) nL zHI zMV 103 [.agg (tc t)] zJZ Q) =
 (([]:List AV)=[]/\∃ t0:T,∃ left1:Int,∃ deep2:Int,[AV.agg (tc t),iZ 4000,iZ 600,AV.agg [AV.nilfunc,AV.func (Go.Fn.func 151) [] [AV.vptr [AV.func (Go.Fn.func 150) [] []]],AV.func (Go.Fn.func 152) [] [AV.vptr [AV.func (Go.Fn.func 150) [] []]],AV.func (Go.Fn.func 153) [] [AV.vptr [AV.func (Go.Fn.func 150) [] []]],AV.func (Go.Fn.func 155) [] [AV.vptr [AV.func (Go.Fn.func 150) [] []]],AV.func (Go.Fn.func 156) [] [AV.vptr [AV.func (Go.Fn.func 150) [] []]],AV.func (Go.Fn.func 157) [] [AV.vptr [AV.func (Go.Fn.func 150) [] []]]]]=[AV.agg (tc t0),iZ left1,iZ deep2,AV.agg [AV.nilfunc,AV.func (Go.Fn.func 151) [] [AV.vptr [AV.func (Go.Fn.func 150) [] []]],AV.func (Go.Fn.func 152) [] [AV.vptr [AV.func (Go.Fn.func 150) [] []]],AV.func (Go.Fn.func 153) [] [AV.vptr [AV.func (Go.Fn.func 150) [] []]],AV.func (Go.Fn.func 155) [] [AV.vptr [AV.func (Go.Fn.func 150) [] []]],AV.func (Go.Fn.func 156) [] [AV.vptr [AV.func (Go.Fn.func 150) [] []]],AV.func (Go.Fn.func 157) [] [AV.vptr [AV.func (Go.Fn.func 150) [] []]]]]/\SizeOf.sizeOf t0<N/\bcase (decide (((zN4 t0 left1 deep2):Int) > 4000))
 (Q (AV.tuple [AV.bool false,iZ 3]) (Ut (Ut zJZ)))
 (∃ l3:List T,∃ m4:Cap,[AV.slice 4 [AV.agg (tc t)] Cap.full]=[AV.slice 4 (tcellL l3) m4]/\List.length (nodesTL l3)<=100000/\(∀ σ'5:zA6,((∀ x6:T,((x6∈nodesTL l3)->(((T.k x6):Int)≠1)))->(Q (AV.tuple [AV.bool true,iZ 0]) σ'5))/\(∀ ov6:Nat,(∀ n7:Nat,(((0:Nat)<n7)->((∃ x8:T,x8∈nodesTL l3/\((T.k x8):Int)=1)->(bcase ((n7:Int)==0)
 (Q (AV.tuple [AV.bool true,iZ 0]) σ'5)
 (Q (AV.tuple [AV.bool false,iZ 0]) σ'5))))))))):=by kernel_rfl
end Go.V
set_option linter.unusedSimpArgs false
set_option linter.unusedSectionVars false
namespace Go.V
open Go Go.Proofs

mutual
theorem zQ9:∀ t:T,(zPE t).length=t.size
 | .mk k n s l=>by rw [zPE,T.size,List.length_cons,nodesTL_size l]; omega
theorem nodesTL_size:∀ l:List T,(nodesTL l).length=sizeL l
 | []=>rfl
 | x :: l=>by rw [nodesTL,sizeL,List.length_append,zQ9 x,nodesTL_size l]
end
theorem zQA {t:T} (h:zND t=0):t.size<=4000:=by
 rw [zOC] at h
 split at h
 ·rename_i k
  unfold isR at k
  simp only [Bool.and_eq_true,decide_eq_true_eq] at k
  omega
 ·cases h
def grT (t:T):Bool:=decide (zND t=0)&&(zPE t).all fun x=>decide (x.k≠1)
def C103:zJC:=fun args σ K=>∃ t:T,args=[.agg (tc t)]/\K (.tuple [.bool (grT t),iZ (zND t)]) σ.untok

section
variable {B:Nat} {w0:World} {G:Nat->AV}
variable (hG:∀ i,zJV (G i))
include hG
theorem c103_ok:zJD (EV B w0 G) 103 C103:=by
 rintro args σ Q ⟨t,rfl,hQ⟩
 refine zN1 hG (fun v hv => ?_) ((zJX _ (show zJW (.tuple [.bool (grT t),iZ (zND t)])=true from rfl)).1) (fun Q hQ => ?_) hQ
 ·simp only [List.mem_cons,List.not_mem_nil,or_false] at hv
  subst hv
  exact zMK t
 refine zJ9 (zKM B w0 G) (zJJ (zKM B w0 G) (zJI (zNJ hG) (zJI (zNC hG (SizeOf.sizeOf t+1)) (zJI c148_ok zJH)))) (fun l hl _ Q a σ k=>k.elim) ((vc103 B w0 G (SizeOf.sizeOf t+1) t Q).mpr ?_)
 refine ⟨rfl,t,4000,600,rfl,Nat.lt_succ_self _,zE2 (fun h => ?_) (fun h => ?_)⟩
 ·have h:zN4 t 4000 600 > 4000:=of_decide_eq_true h
  have e:zND t=3:=by unfold zND; rw [if_pos h]
  have e2:grT t=false:=by unfold grT; rw [e]; rfl
  rw [e,e2] at hQ
  exact hQ _
 ·have h:¬ zN4 t 4000 600 > 4000:=of_decide_eq_false h
  have e:zND t=0:=by unfold zND; rw [if_neg h]
  have hs:=zQA e
  have hn:nodesTL [t]=zPE t:=by rw [nodesTL,nodesTL,List.append_nil]
  rw [e] at hQ
  refine ⟨[t],.full,(by rw [tcellL,zMF,tcellL] <;> rfl),by rw [hn,zQ9]; omega,fun σ'=>⟨fun hg => ?_,fun ov n hn0 hv=>zE2 (fun h => ?_) (fun h => ?_)⟩⟩
  ·have e2:grT t=true:=by
    unfold grT; rw [e]
    simp only [decide_true,Bool.true_and,List.all_eq_true,decide_eq_true_eq]
    rw [hn] at hg; exact hg
   rw [e2] at hQ; exact hQ _
  ·have:n=0:=by simpa using h
   omega
  ·have e2:grT t=false:=by
    cases hgt:grT t with
    | false=>rfl
    | true =>
     unfold grT at hgt
     simp only [Bool.and_eq_true,List.all_eq_true,decide_eq_true_eq] at hgt
     obtain ⟨x,hx,hx1⟩:=hv
     rw [hn] at hx
     exact absurd hx1 (hgt.2 x hx)
   rw [e2] at hQ; exact hQ _
end
end Go.V
namespace Go.V
open Go Go.Proofs
variable (B:Nat) (w0:World) (G:Nat->AV)
def slV (l:List T):AV:=.slice 4 (tcellL l) .any
def lsV (ls:List (List T)):List AV:=ls.map slV
def hSl:zIB:=zIB.as (fun l:List T => .vptr [slV l])
def zQB (ls:List (List T)):Nat:=(ls.map List.length).sum
structure Y17 where
 i:Nat
 n:Nat
def ls17 (ls:List (List T)):LS Y17 where
 F y:=[(0,.v (.slice 1 (lsV ls) .any)),(3,.v (iZ (y.n:Int))),(6,.v (.slice 1 (lsV ls) .any)),(7,.v (iZ ((lsV ls).length:Int))),(8,.v (iZ (y.i:Int)))]
 FL _:=[]
 S y:=zJZ
 I y:=y.i<=ls.length/\y.n=zQB (ls.take y.i)
 μ y:=ls.length - y.i
 Ex y e a σ:=match e with
  | .exit 0=>¬ (y.i<ls.length)/\atF a [(0,.v (.slice 1 (lsV ls) .any)),(3,.v (iZ (y.n:Int)))] [] (zJZ.Le σ)
  | _=>False
def N17:zIE:=hAt [(4,0,hSl),(7,5,zIB.s)]
theorem zQC:zKE Tryz.prog [] 17=[.loop (lB 17 0)]:=by kernel_rfl
theorem vc17l (ls:List (List T)) (y:Y17):(wpX [] (EV B w0 G) (H0 (EV B w0 G)) nL (zHI 17) N17 (lB 17 0) ((ls17 ls).post y) (frm [(0,.v (.slice 1 (lsV ls) .any)),(3,.v (iZ (y.n:Int))),(6,.v (.slice 1 (lsV ls) .any)),(7,.v (iZ ((lsV ls).length:Int))),(8,.v (iZ (y.i:Int)))] []) zJZ) =
 (bcase (decide ((Y17.i y:Int)<(List.length (lsV ls):Int)))
 (((0:Int)<=(Y17.i y:Int)/\(Y17.i y:Int)<(List.length (lsV ls):Int))/\∃ x0:List T,AV.vptr (AV.cells (List.getD (lsV ls) (Int.toNat (↑(Y17.i y):Int)) AV.undef))=AV.vptr [sT x0]/\∃ x'1:Y17,((Y17.i x'1<=List.length ls/\Y17.n x'1=zQB (List.take (Y17.i x'1) ls))/\LS.μ (ls17 ls) x'1<LS.μ (ls17 ls) y)/\Rf (TV.v (AV.slice 1 (lsV ls) Cap.any))/\TV.v (iZ (IntKind.wrap .i64 ((Y17.n y:Int)+(List.length (tcellL x0):Int))))=TV.v (iZ (Y17.n x'1:Int))/\Rf (TV.v (AV.slice 1 (lsV ls) Cap.any))/\Rf (TV.v (iZ (List.length (lsV ls):Int)))/\TV.v (iZ (IntKind.wrap .i64 ((Y17.i y:Int)+1)))=TV.v (iZ (Y17.i x'1:Int))/\zA6.Le ((ls17 ls).3 x'1) zJZ)
 (((Y17.i y<List.length ls)->False)/\Rf (TV.v (AV.slice 1 (lsV ls) Cap.any))/\Rf (TV.v (iZ (Y17.n y:Int)))/\zA6.Le zJZ zJZ)):=by kernel_rfl
def T17 (ls:List (List T)):zFV:=fun _ Q a σ=>atF a ((ls17 ls).F ⟨0,0⟩) [] (zJZ.Le σ)/\∀ n:Nat,n=zQB ls->Q (.exit 0) (frm [(0,.v (.slice 1 (lsV ls) .any)),(3,.v (iZ (n:Int)))] []) zJZ
theorem vc17 (ls:List (List T)) (Q:AV->zA6->Prop):(zKD [] (EV B w0 G) (H0 (EV B w0 G)) (T17 ls) zHI N17 17 [.slice 1 (lsV ls) .any] zJZ Q) =
 ((Rf (TV.v (AV.slice 1 (lsV ls) Cap.any))/\Rf (TV.v (iZ 0))/\Rf (TV.v (AV.slice 1 (lsV ls) Cap.any))/\Rf (TV.v (iZ (List.length (lsV ls):Int)))/\Rf (TV.v (iZ 0))/\zA6.Le zJZ zJZ)/\(∀ n0:Nat,((n0=zQB ls)->(bcase (decide ((List.length (lsV ls):Int)<=20))
 (Q (AV.bool (decide ((n0:Int)<=1000))) zJZ)
 (Q (AV.bool false) zJZ))))):=by kernel_rfl
def H59 (E:Env):zDY:=hnd E zHI zMU [(103,C103)]
theorem zQD:zKE Tryz.prog [] 59=[.loop (lB 59 0)]:=by kernel_rfl
theorem zQE:zKI [] (zKG Tryz.prog [] 59 0)=[.loop (zKH (zKJ [] (zKG Tryz.prog [] 59 0) 0))]:=by kernel_rfl
end Go.V
namespace Go.V
open Go Go.Proofs

theorem zQF (ls:List (List T)):(lsV ls).length=ls.length:=by unfold lsV; simp
theorem zQG {ls:List (List T)} {i:Nat} (h:i<ls.length):(lsV ls).getD i .undef=slV ls[i]:=by
 unfold lsV
 rw [List.getD_eq_getElem?_getD,List.getElem?_map,List.getElem?_eq_getElem h]; rfl
theorem zQH:∀ ls:List (List T),zA0 (lsV ls)=lsV ls
 | []=>rfl
 | x :: ls=>by
  show zA0 (slV x :: lsV ls)=_
  rw [zC3,zQH ls]; rfl
theorem zQI (l:List T):zJV (slV l):=slT_noId l
theorem zQJ (ls:List (List T)):zJV (.slice 1 (lsV ls) .any):=.slice (by simp) fun y hy=>by
 rw [zQH] at hy
 unfold lsV at hy
 obtain ⟨x,_,rfl⟩:=List.mem_map.1 hy
 exact zQI x
theorem zQK {ls:List (List T)} {i:Nat} (h:i<ls.length):zQB (ls.take (i+1))=zQB (ls.take i)+ls[i].length:=by
 unfold zQB
 rw [List.take_succ_eq_append_getElem h,List.map_append,List.sum_append]
 simp
theorem zQL (ls:List (List T)) (i:Nat):zQB (ls.take i)<=zQB ls:=by
 have:zQB ls=zQB (ls.take i)+zQB (ls.drop i):=by
  unfold zQB
  rw [<-List.sum_append,<-List.map_append,List.take_append_drop]
 omega
theorem zQM {ls:List (List T)} {l:List T} (h:l∈ls):l.length<=zQB ls:=by
 induction ls with
 | nil=>cases h
 | cons x ls ih =>
  have e:zQB (x :: ls)=x.length+zQB ls:=by unfold zQB; simp
  rcases List.mem_cons.1 h with rfl | h
  ·omega
  ·have:=ih h; omega

theorem zQN {x:T} (h:zND x≠0):grT x=false:=by
 unfold grT; rw [decide_eq_false h]; rfl
def zQO (ls:List (List T)):Bool:=decide ((ls.length:Int)<=20)&&decide ((zQB ls:Int)<=1000)
def C17:zJC:=fun args σ K=>∃ ls:List (List T),args=[.slice 1 (lsV ls) .any]/\(zQB ls<=1099511627776/\ls.length<=1099511627776)/\K (.bool (zQO ls)) σ.untok
section
variable {B:Nat} {w0:World} {G:Nat->AV}
variable (hG:∀ i,zJV (G i))
include hG
theorem c17_ok:zJD (EV B w0 G) 17 C17:=by
 rintro args σ Q ⟨ls,rfl,⟨hb1,hb2⟩,hQ⟩
 refine zN1 hG (fun y hy => ?_) (.bool _) (fun Q hQ => ?_) hQ
 ·simp only [List.mem_cons,List.not_mem_nil,or_false] at hy
  subst hy; exact zQJ ls
 refine zKF (cuts:=[]) (zKM B w0 G) zQ7 (fun lp hl _ Q a' σ kk => ?_) ((vc17 B w0 G ls Q).mpr ⟨⟨rfl,rfl,rfl,rfl,rfl,.refl _⟩,fun n hn=>zE2 (fun h => ?_) (fun h => ?_)⟩)
 ·change lp∈zKE Tryz.prog [] 17 at hl
  rw [zQC] at hl
  simp only [List.mem_cons,List.not_mem_nil,or_false] at hl
  subst hl
  obtain ⟨hat,hR⟩:=kk
  refine zK5 (ls17 ls) (x0:=⟨0,0⟩) (fun y hI => ?_) (fun y hI e a' σ hne kk => ?_) ⟨Nat.zero_le _,rfl⟩ hat
  ·obtain ⟨hi,hn⟩:y.i<=ls.length/\y.n=zQB (ls.take y.i):=hI
   show AWp _ _ _ _ _ (frm [(0,.v (.slice 1 (lsV ls) .any)),(3,.v (iZ (y.n:Int))),(6,.v (.slice 1 (lsV ls) .any)),(7,.v (iZ ((lsV ls).length:Int))),(8,.v (iZ (y.i:Int)))] []) zJZ
   refine zP3 zQ7 (zKM B w0 G) (by kernel_rfl) ((vc17l B w0 G ls y).mpr (zE2 (fun h => ?_) (fun h=>⟨fun h2 => ?_,rfl,rfl,.refl _⟩)))
   ·have h:=of_decide_eq_true h
    have hk:y.i<ls.length:=by rw [zQF] at h; omega
    have hs:=zQK hk
    have hs2:=zQL ls (y.i+1)
    have w1:IntKind.wrap .i64 ((y.i:Int)+1)=((y.i+1:Nat):Int):=by rw [zN8 (by omega) (by omega)]; omega
    have w2:IntKind.wrap .i64 ((y.n:Int)+(ls[y.i].length:Int))=((y.n+ls[y.i].length:Nat):Int):=by rw [zN8 (by omega) (by omega)]; omega
    refine ⟨⟨by omega,h⟩,ls[y.i],by rw [Int.toNat_natCast,zQG hk]; rfl,⟨y.i+1,y.n+ls[y.i].length⟩,⟨⟨hk,by rw [hs]; show y.n+_=_; omega⟩,?_⟩,rfl,?_,rfl,rfl,?_,.refl _⟩
    ·show ls.length - (y.i+1)<ls.length - y.i
     omega
    ·rw [zMH,w2]
    ·rw [w1]
   ·have h:=of_decide_eq_false h
    rw [zQF] at h; omega
  ·obtain ⟨hi,hn⟩:y.i<=ls.length/\y.n=zQB (ls.take y.i):=hI
   cases e with
   | exit j =>
    match j,kk with
    | 0,kk =>
     have hk:¬ y.i<ls.length:=kk.1
     rw [show y.i=ls.length by omega,List.take_length] at hn
     exact ⟨_,_,(zJM kk.2).1,(zJM kk.2).2,hR _ hn⟩
   | normal=>exact absurd rfl hne
   | _=>exact kk.elim
 ·subst hn
  have h:=of_decide_eq_true h
  rw [zQF] at h
  unfold zQO at hQ
  rw [decide_eq_true h] at hQ
  exact hQ _
 ·subst hn
  have h:=of_decide_eq_false h
  rw [zQF] at h
  unfold zQO at hQ
  rw [decide_eq_false h] at hQ
  exact hQ _

end
end Go.V


namespace Go.V
open Go Go.Proofs

section
variable {ls:List (List T)} {out:List T} {p order:List Nat} {bad:List Bool}
variable {B:Nat} {w0:World} {G:Nat->AV} {N s n i w S:Nat} {l:List T}
theorem idx1 (i:Nat):(0+Int.toNat (i:Int))*1=i:=by simp
end
end Go.V



namespace Go.V
open Go Go.Proofs

theorem ints0 (n:Nat):List.flatten (List.replicate n (AV.cells (av (Go.Value.int .i64 0))))=zP2 (List.replicate n 0):=by
 show List.flatten (List.replicate n [iZ 0])=_
 unfold zP2
 rw [List.map_replicate]
 induction n with
 | zero=>rfl
 | succ n ih=>rw [List.replicate_succ,List.flatten_cons,ih,List.replicate_succ]; rfl
end Go.V


namespace Go.V
open Go Go.Proofs

def vV (n:Nat):AV:=.agg [iZ 1,iZ (n:Int),.str ⟨⟨[]⟩⟩,.nilslice]
def funV (s:List UInt8) (l:List AV) (c:Cap):AV:=.agg [iZ 5,iZ 0,.str ⟨⟨s⟩⟩,.slice 4 l c]
def nilV:AV:=.agg [iZ 3,iZ 0,.str ⟨⟨[91,93]⟩⟩,.nilslice]
def eqV (t u:AV):AV:=funV [61] [t,u] .full
def cellV (t u:AV):AV:=funV [46] [t,u] .full
def mergeV (l:List AV):AV:=funV [109,101,114,103,101] l .nn
def zQP (vars:Nat) (head:AV) (body:List AV):AV:=.agg [iZ 0,iZ (vars:Int),head,.nilslice,.slice 4 body .full]
def takeV (k i:Nat):AV :=
 zQP (k+3) (.slice 4 ((List.range k).map (fun j=>if j<i then vV j else if j=i then cellV (vV i) (vV (i+1)) else vV (j+1))++[vV (k+1)]) .nn)
  [eqV (vV (k+1)) (cellV (vV i) (vV (k+2))),mergeV ((List.range k).map (fun j=>if j<i then vV j else vV (j+1))++[vV (k+2)])]
def endV (k i:Nat):AV :=
 zQP k (.slice 4 ((List.range k).map (fun j=>if j<i then vV j else if j=i then nilV else vV (j - 1))++[vV (k - 1)]) .nn)
  [mergeV ((List.range (k - 1)).map vV++[vV (k - 1)])]
def clausesV (k:Nat):AV:=match k with
 | 0 => .slice 5 [zQP 1 (.slice 4 [vV 0] .full) [eqV (vV 0) nilV]] .full
 | k+1 => .slice 5 ((List.range (k+1)).map (takeV (k+1))++(List.range (k+1)).map (endV (k+1))) .nn
def procsV (n:Nat):List AV:=(List.range (n+1)).map fun k => .agg [.str ⟨⟨[109,101,114,103,101]⟩⟩,iZ ((k+1:Nat):Int),clausesV k]
def zQQ (n:Nat):AV:=.agg [.slice 3 (procsV n) .nn]
end Go.V
