/- A part of the proof of the statement S8 (texts brought together and shortened by a program of this work). -/
import Derived.Test.YtgnjidopnplbbaaGreatDoorQ33
import Derived.Test.YtgnjidopnplbbaaGreatDoorQ24
import Derived.Test.YtgnjidopnplbbaaGreatDoorQ18
import Derived.Test.YtgnjidopnplbbaaGreatDoorQ32
import Derived.Test.YtgnjidopnplbbaaGreatDoorQ23
import Derived.Test.YtgnjidopnplbbaaGreatDoorQ26
set_option maxRecDepth 1000000
set_option linter.unusedVariables false
set_option linter.unusedSimpArgs false
set_option linter.unusedSectionVars false
namespace Go.V
open Go Go.Proofs

theorem zZS {o:List Int} {i:Nat} (h:i<o.length) (k:Nat):zZM (o.take (i+1)) k=zZM (o.take i) k+if o[i]=(k:Int) then 1 else 0:=by
 unfold zZM
 rw [List.take_succ_eq_append_getElem h,List.countP_append,List.countP_cons,List.countP_nil]
 simp
theorem zZT {n:Nat} {o:List Int} {i:Nat} (h:i<o.length):zZL n (o.take (i+1))=(zZL n (o.take i)&&(decide (0<=o[i])&&decide (o[i]<(n:Int)))):=by
 unfold zZL
 exact zWH (P:=fun x=>decide (0<=x)&&decide (x<(n:Int))) h
theorem zZU (o:List Int) (k:Nat):zZM o k<=o.length:=List.countP_le_length
structure zZV (n:Nat) (cs:List Int) (o:List Int):Prop where
 len:cs.length=n
 cnt:∀ k,k<n->cs.getD k 0=(zZM o k:Int)
theorem zZV.step {n:Nat} {cs o:List Int} {i k:Nat} (hi:i<o.length) (hk:o[i]=(k:Int)) (hkn:k<n) (h:zZV n cs (o.take i)):zZV n (cs.set k (cs.getD k 0+1)) (o.take (i+1)):=by
 refine ⟨by rw [List.length_set,h.len],fun j hj => ?_⟩
 rw [zZS hi,hk]
 have hl:=h.len
 by_cases e:k=j
 ·subst e
  rw [List.getD_eq_getElem?_getD,List.getElem?_set_self (by omega)]
  have:=h.cnt k hkn
  simp only [if_true,Option.getD_some]
  omega
 ·rw [List.getD_eq_getElem?_getD,List.getElem?_set_ne e,<-List.getD_eq_getElem?_getD,h.cnt j hj,if_neg (by omega)]
  simp
theorem zZW (cs cs':List Int):zA6.set (zA6.new zJZ (.cells (zP9 cs) 3 1 false)) 0 (.cells (zP9 cs') 3 1 false)=stC cs':=zA6.new_set zJZ _ _
section
variable {B:Nat} {w0:World} {G:Nat->AV}
theorem loop81a {ls:List (List T)} {o:List Int} {No:Prop} {lp:Code} (hlp:lp = .loop (lB 81 0)) (hl:ls.length<=1000000) (ho:o.length<=1099511627776) (hNo:zZL ls.length o=false->No) {Q:zDW} {a:zDN} {σ:zA6}
  (k:T81a ls o (fun y=>y.i<=o.length/\zZV ls.length y.cs (o.take y.i)/\zZL ls.length (o.take y.i)=true) (fun y=>zZV ls.length y.cs o/\zZL ls.length o=true) No lp Q a σ):AWp (EV B w0 G) none (zJ8 Tryz.prog 81) lp Q a σ:=by
 subst hlp
 obtain ⟨y0,hI0,hat,hR1,hR2⟩:=k
 refine zK5 (zZO ls o (fun y=>y.i<=o.length/\zZV ls.length y.cs (o.take y.i)/\zZL ls.length (o.take y.i)=true) No) (x0:=y0) (fun y hI => ?_) (fun y hI e a' σ hne kk => ?_) hI0 hat
 ·obtain ⟨cs,i⟩:=y
  obtain ⟨hi,hc,hr⟩:=hI
  change i<=o.length at hi
  change zZV ls.length cs (o.take i) at hc
  change zZL ls.length (o.take i)=true at hr
  have hcl:=hc.len
  have hll:=zQF ls
  refine zP3 zMZ (zKM B w0 G) (by kernel_rfl) ((vc81a B w0 G ls o _ No cs i).mpr (zE2 (fun h => ?_) (fun h=>⟨fun h2 => ?_,rfl,rfl,.refl _⟩)))
  ·have h:(i:Int)<((zP9 o).length:Int):=of_decide_eq_true h
   rw [zPA] at h
   have hi2:i<o.length:=by omega
   have hrg:(0:Int)<=(i:Int)/\(i:Int)<((zP9 o).length:Int):=⟨by omega,by rw [zPA]; omega⟩
   have hg:AV.vptr (AV.cells (List.getD (zP9 o) (Int.toNat (i:Int)) AV.undef)) = .vptr [iZ o[i]]:=by rw [Int.toNat_natCast]; exact zPB hi2
   have hst:=zZT (n:=ls.length) hi2
   rw [hr,Bool.true_and] at hst
   have bad:(decide (0<=o[i])&&decide (o[i]<(ls.length:Int)))=false->No:=fun h=>hNo (by
    unfold zZL
    exact zWI (P:=fun x=>decide (0<=x)&&decide (x<(ls.length:Int))) hi2 h)
   refine ⟨hrg,o[i],hg,zE2 (fun h1=>⟨bad ?_,rfl,trivial⟩) (fun h1=>⟨hrg,o[i],hg,zE2 (fun h2=>⟨bad ?_,rfl,trivial⟩) (fun h2 => ?_)⟩)⟩
   ·rw [decide_eq_false (show ¬ 0<=o[i] by have:=of_decide_eq_true h1; omega)]; rfl
   ·rw [hll] at h2
    rw [decide_eq_false (show ¬ o[i]<(ls.length:Int) by have:=of_decide_eq_true h2; omega)]; simp
   ·have h1:=of_decide_eq_false h1
    rw [hll] at h2
    have h2:=of_decide_eq_false h2
    obtain ⟨k,hk⟩:∃ k:Nat,o[i]=(k:Int):=⟨o[i].toNat,by omega⟩
    have hkn:k<ls.length:=by omega
    have hz:(zP9 cs).getD k .undef=iZ (cs.getD k 0):=zR4 (by omega)
    have hcc:=hc.cnt k hkn
    have hcle:=zZU (o.take i) k
    rw [List.length_take] at hcle
    have hrk:(0:Int)<=o[i]/\o[i]<(ls.length:Int):=⟨by omega,by omega⟩
    have htn:(0+Int.toNat o[i])*1=k:=by omega
    refine ⟨hrg,o[i],hg,⟨zP9 cs,false⟩,rfl,hrk,⟨zP9 cs,false⟩,rfl,by rw [htn]; show k<(zP9 cs).length; rw [zPA]; omega,cs.getD k 0,by rw [htn]; exact hz,⟨zP9 cs,false⟩,rfl,hrk,⟨zP9 cs,false⟩,rfl,by rw [htn]; show k+1<=(zP9 cs).length; rw [zPA]; omega,⟨cs.set k (cs.getD k 0+1),i+1⟩,⟨⟨hi2,hc.step hi2 hk hkn,?_⟩,?_⟩,rfl,rfl,rfl,?_,?_⟩
    ·show zZL ls.length (o.take (i+1))=true
     rw [hst,decide_eq_true hrk.1,decide_eq_true hrk.2]; rfl
    ·show o.length - (i+1)<o.length - i
     omega
    ·exact congrArg (fun z=>TV.v (iZ z)) (by rw [show ((i:Int)+1)=((i+1:Nat):Int) by omega,zN8 (by omega) (by omega)])
    ·rw [htn,zN8 (by omega) (by omega)]
     dsimp only
     rw [zPD (by rw [zPA]; omega),zR3,zZW]
     exact .refl _
  ·have h:¬ (i:Int)<((zP9 o).length:Int):=of_decide_eq_false h
   rw [zPA] at h
   have h2:i<o.length:=h2
   omega
 ·obtain ⟨cs,i⟩:=y
  obtain ⟨hi,hc,hr⟩:=hI
  change i<=o.length at hi
  change zZV ls.length cs (o.take i) at hc
  change zZL ls.length (o.take i)=true at hr
  cases e with
  | exit j =>
   match j,kk with
   | 0,kk =>
    have hk:¬ i<o.length:=kk.1
    rw [show i=o.length by omega,List.take_length] at hc hr
    exact ⟨_,_,(zJM kk.2).1,(zJM kk.2).2,hR1 ⟨cs,i⟩ ⟨hc,hr⟩⟩
  | ret=>exact ⟨_,σ,(zJM kk.2).1,.refl _,hR2 kk.1 σ⟩
  | normal=>exact absurd rfl hne
  | _=>exact kk.elim
def okN (ls:List (List T)) (o:List Int) (j:Nat):Bool:=(List.range j).all fun k=>decide (zZM o k=(ls.getD k []).length)
theorem zZX (ls:List (List T)) (o:List Int) (j:Nat):okN ls o (j+1)=(okN ls o j&&decide (zZM o j=(ls.getD j []).length)):=by
 unfold okN
 rw [List.range_succ,List.all_append]; simp
theorem zZY {ls:List (List T)} {o:List Int} {j n:Nat} (hj:j<n) (h:zZM o j≠(ls.getD j []).length):okN ls o n=false:=by
 unfold okN
 rw [List.all_eq_false]
 exact ⟨j,List.mem_range.2 hj,by simpa using h⟩
theorem loop81b {ls:List (List T)} {o:List Int} {Yes No:Prop} {lp:Code} (hlp:lp = .loop (lB 81 1)) (hl:ls.length<=1000000) (ho:o.length<=1099511627776) (hls:∀ l∈ls,l.length<=1000000) (hNo:okN ls o ls.length=false->No) (hYes:okN ls o ls.length=true->Yes) {Q:zDW} {a:zDN} {σ:zA6}
  (k:T81b ls (fun cs j=>j<=ls.length/\zZV ls.length cs o/\okN ls o j=true) Yes No lp Q a σ):AWp (EV B w0 G) none (zJ8 Tryz.prog 81) lp Q a σ:=by
 subst hlp
 obtain ⟨cs,hI0,hat,hR1,hR2⟩:=k
 refine zK5 (zZQ ls cs (fun j=>j<=ls.length/\zZV ls.length cs o/\okN ls o j=true) No) (x0:=0) (fun j hI => ?_) (fun j hI e a' σ hne kk => ?_) hI0 hat
 ·obtain ⟨hj,hc,hr⟩:j<=ls.length/\zZV ls.length cs o/\okN ls o j=true:=hI
  have hcl:=hc.len
  have hll:=zQF ls
  refine zP3 zMZ (zKM B w0 G) (by kernel_rfl) ((vc81b B w0 G ls cs _ No j).mpr (zE2 (fun h => ?_) (fun h=>⟨fun h2 => ?_,trivial⟩)))
  ·have h:=of_decide_eq_true h
   rw [hll] at h
   have hj2:j<ls.length:=by omega
   have hz:(zP9 cs).getD j .undef=iZ (cs.getD j 0):=zR4 (by omega)
   have hcc:=hc.cnt j hj2
   have hgd:ls.getD j []=ls[j]:=by rw [List.getD_eq_getElem?_getD,List.getElem?_eq_getElem hj2]; rfl
   have hst:=zZX ls o j
   rw [hr,Bool.true_and,hgd] at hst
   refine ⟨⟨zP9 cs,false⟩,rfl,⟨by omega,by omega⟩,⟨zP9 cs,false⟩,rfl,by rw [idx1]; show j<(zP9 cs).length; rw [zPA]; omega,cs.getD j 0,by rw [idx1]; exact hz,⟨by omega,by rw [hll]; omega⟩,ls[j],by rw [Int.toNat_natCast,zQG hj2]; rfl,zE2 (fun h1=>⟨hNo (zZY hj2 ?_),rfl,trivial⟩) (fun h1=>⟨j+1,⟨⟨hj2,hc,?_⟩,?_⟩,rfl,rfl,?_,.refl _⟩)⟩
   ·rw [zMH,hcc,bne_iff_ne] at h1
    rw [hgd]
    exact fun e=>h1 (by rw [e])
   ·rw [zMH,hcc,bne_eq_false_iff_eq] at h1
    rw [hst,decide_eq_true (by omega)]
   ·show ls.length - (j+1)<ls.length - j
    omega
   ·exact congrArg (fun z=>TV.v (iZ z)) (by rw [show ((j:Int)+1)=((j+1:Nat):Int) by omega,zN8 (by omega) (by omega)])
  ·have h:=of_decide_eq_false h
   rw [hll] at h
   have h2:j<ls.length:=h2
   omega
 ·obtain ⟨hj,hc,hr⟩:j<=ls.length/\zZV ls.length cs o/\okN ls o j=true:=hI
  cases e with
  | exit n =>
   match n,kk with
   | 2,kk =>
    have hk:¬ j<ls.length:=kk.1
    rw [show j=ls.length by omega] at hr
    exact ⟨_,σ,(zJM kk.2).1,.refl _,hR1 (hYes hr) σ⟩
  | ret=>exact ⟨_,σ,(zJM kk.2).1,.refl _,hR2 kk.1 σ⟩
  | normal=>exact absurd rfl hne
  | _=>exact kk.elim
variable (hG:∀ i,zJV (G i))
include hG
theorem c81_ok:zJD (EV B w0 G) 81 C81:=by
 rintro args σ Q ⟨ls,o,rfl,⟨hl,ho,hls⟩,hQ⟩
 refine zN1 hG (fun v hv => ?_) (.bool _) (fun Q hQ => ?_) hQ
 ·simp only [List.mem_cons,List.not_mem_nil,or_false] at hv
  rcases hv with rfl | rfl
  ·exact zQJ ls
  ·exact zPC o
 have hll:=zQF ls
 have hQ:∀ σ',Q (.bool (zZL ls.length o&&okN ls o ls.length)) σ':=hQ
 let No:Prop:=(zZL ls.length o&&okN ls o ls.length)=false
 have no1:zZL ls.length o=false->No:=fun h=>by show (_&&_)=false; rw [h]; rfl
 have no2:okN ls o ls.length=false->No:=fun h=>by show (_&&_)=false; rw [h,Bool.and_false]
 refine zKF (cuts:=[]) (zKM B w0 G) zMZ (fun lp hl2 _ Q a' σ kk => ?_) ((vc81 B w0 G ls o (fun y=>y.i<=o.length/\zZV ls.length y.cs (o.take y.i)/\zZL ls.length (o.take y.i)=true) (fun y=>zZV ls.length y.cs o/\zZL ls.length o=true) (fun cs j=>j<=ls.length/\zZV ls.length cs o/\okN ls o j=true) (zZL ls.length o=true->(zZL ls.length o&&okN ls o ls.length)=true) No Q).mpr ?_)
 ·change lp∈zKE Tryz.prog [] 81 at hl2
  rw [zZP] at hl2
  simp only [List.mem_cons,List.not_mem_nil,or_false] at hl2
  rcases hl2 with rfl | rfl
  ·refine zKL (P:=fun c Q a σ=>AWp (EV B w0 G) none (zJ8 Tryz.prog 81) c Q a σ) kk (fun _ k=>loop81a rfl hl ho no1 k) (fun k => ?_)
   exact zKL (P:=fun c Q a σ=>AWp (EV B w0 G) none (zJ8 Tryz.prog 81) c Q a σ) k (fun h k=>by rw [zZR.1] at h; cases h) (fun k=>k.elim)
  ·refine zKL (P:=fun c Q a σ=>AWp (EV B w0 G) none (zJ8 Tryz.prog 81) c Q a σ) kk (fun h k=>by rw [zZR.2] at h; cases h) (fun k => ?_)
   exact zKL (P:=fun c Q a σ=>AWp (EV B w0 G) none (zJ8 Tryz.prog 81) c Q a σ) k (fun _ k=>loop81b rfl hl ho hls no2 (fun h h2=>by rw [h,h2]; rfl) k) (fun k=>k.elim)
 ·refine ⟨⟨by omega,by omega,by omega,by omega⟩,⟨List.replicate ls.length 0,0⟩,⟨Nat.zero_le _,⟨by simp,fun k hk => ?_⟩,rfl⟩,⟨rfl,rfl,?_,rfl,?_⟩,fun y' hy=>⟨y'.cs,⟨Nat.zero_le _,hy.1,rfl⟩,⟨rfl,rfl,rfl,.refl _⟩,fun h σ' => ?_,fun h σ' => ?_⟩,fun h σ' => ?_⟩
  ·show List.getD (List.replicate ls.length (0:Int)) k 0=_
   rw [List.getD_eq_getElem?_getD,List.getElem?_replicate,if_pos hk]; rfl
  ·rw [hll,Int.toNat_natCast]
  ·rw [hll,zR6]; exact .refl _
  ·have:=hQ σ'
   rw [h hy.2] at this; exact this
  ·have:=hQ σ'
   rw [show (zZL ls.length o&&okN ls o ls.length)=false from h] at this; exact this
  ·have:=hQ σ'
   rw [show (zZL ls.length o&&okN ls o ls.length)=false from h] at this; exact this
end
end Go.V
namespace Go.V
open Go Go.Proofs

theorem zZZ:∀ {l:List T} {x:T},x∈l->x.deep<=deepL l
 | y :: l,x,h=>by
  rw [deepL]
  rcases List.mem_cons.1 h with rfl | h
  ·omega
  ·have:=zZZ h; omega
theorem za0:∀ {l:List T} {x:T},x∈l->nodesRL l=true->zNW x=true
 | y :: l,x,h,hn=>by
  rw [nodesRL,Bool.and_eq_true] at hn
  rcases List.mem_cons.1 h with rfl | h
  ·exact hn.1
  ·exact za0 h hn.2
theorem za1 {t:T}:zND t=0↔isR t=true:=by
 rw [zOC]
 cases isR t <;> simp
theorem chkT_sub {t x:T} (hx:x∈t.l) (h:zND t=0):zND x=0:=by
 rw [za1] at h ⊢
 unfold isR at h ⊢
 simp only [Bool.and_eq_true,decide_eq_true_eq] at h ⊢
 obtain ⟨h1,h2,h3⟩:=h
 have e1:=t.size_eq
 have e2:=t.deep_eq
 have m1:=zMR hx
 have m2:=zZZ hx
 rw [zOA,Bool.and_eq_true] at h3
 exact ⟨by omega,by omega,za0 hx h3.2⟩
theorem za2:∀ (l:List T) (e:T),(zZC l e).size=l.length+sizeL l+e.size
 | [],e=>by rw [zZC,sizeL]; simp
 | x :: l,e=>by
  rw [zZC,T.size_eq]
  show 1+sizeL [x,zZC l e]=_
  rw [sizeL,sizeL,sizeL,za2 l e,sizeL,List.length_cons]
  omega
def za3 (l:List T):Int:=if zS5 l=false then 3 else if l.length > 600 then 2 else if zND (zZC l zYQ)=0 then 0 else 2
def quN (ls:List (List T)):Qu:=⟨1,[zYS (ls.map (fun l=>zZC l zYQ)++[vN 0])]⟩
def quZ:Qu:=⟨0,[]⟩
def za4 (ls:List (List T)):Int:=if zSH (zYV ls.length) (quN ls)=true then 0 else 2
def za5 (ls:List (List T)):Int×Qu:=if zR2 ls=0 then (za4 ls,if za4 ls=0 then quN ls else quZ) else (zR2 ls,quZ)
theorem za6 {ls:List (List T)} (h:za4 ls=0) {l:List T} (hl:l∈ls):zND (zZC l zYQ)=0/\l.length+sizeL l<=400:=by
 unfold za4 at h
 have h:zSH (zYV ls.length) (quN ls)=true:=by
  cases e:zSH (zYV ls.length) (quN ls) with
  | true=>rfl
  | false=>rw [e] at h; simp at h
 unfold zSH zSG at h
 simp only [Bool.and_eq_true,decide_eq_true_eq] at h
 obtain ⟨_,⟨⟨_,h1,h2⟩,_⟩,_⟩:=h
 have hm:zZC l zYQ∈(zYS (ls.map (fun l=>zZC l zYQ)++[vN 0])).l:=by
  show _∈ls.map (fun l=>zZC l zYQ)++[vN 0]
  exact List.mem_append_left _ (List.mem_map.2 ⟨l,hl,rfl⟩)
 have hg:zYS (ls.map (fun l=>zZC l zYQ)++[vN 0])∈(quN ls).goals:=List.mem_cons_self
 refine ⟨chkT_sub hm ((zT6.1 h1).1 _ hg),?_⟩
 have m1:=zMR hg
 have m2:=zMR hm
 have e:=(zYS (ls.map (fun l=>zZC l zYQ)++[vN 0])).size_eq
 rw [za2] at m2
 omega
theorem za7 {ls:List (List T)} {l:List T} (hl:l∈ls) (hi:∀ x∈l,zND x=0) (h:za3 l≠0):za4 ls=2:=by
 have:za4 ls=0\/za4 ls=2:=by unfold za4; split <;> simp
 rcases this with h0 | h2
 ·exfalso
  obtain ⟨h1,h2⟩:=za6 h0 hl
  apply h
  have ht:zS5 l=true:=zT6.2 ⟨hi,by omega⟩
  unfold za3
  rw [ht,if_neg (by simp),if_neg (by omega),if_pos h1]
 ·exact h2
theorem za8 {ls:List (List T)} {l:List T} (hl:l∈ls) (h:l.length > 400):za4 ls=2:=by
 have:za4 ls=0\/za4 ls=2:=by unfold za4; split <;> simp
 rcases this with h0 | h2
 ·have:=za6 h0 hl; omega
 ·exact h2
def za9:Nat->List Int->List (Int×Int)
 | _,[]=>[]
 | g,x :: o=>((g:Int),x) :: ((g:Int)+1,-1) :: za9 (g+2) o
def zaA:Nat->Nat->List (Int×Int)
 | _,0=>[]
 | g,k+1=>((g:Int),((k+1:Nat):Int)) :: zaA (g+1) k
def zaB (n:Nat) (o:List Int):List (Int×Int):=za9 0 o++zaA (2*o.length) n++[(((2*o.length+n:Nat):Int),0),(((2*o.length+n:Nat):Int)+1,-1)]
def zaC (ls:List (List T)) (o:List Int):Int×List (Int×Int) :=
 if zR2 ls≠0 then (zR2 ls,[]) else if zZN ls o=false then (1,[]) else if za4 ls≠0 then (za4 ls,[]) else (0,zaB ls.length o)
theorem zaD:∀ (g:Nat) (a b:List Int),za9 g (a++b)=za9 g a++za9 (g+2*a.length) b
 | g,[],b=>rfl
 | g,x :: a,b=>by
  rw [List.cons_append,za9,za9,zaD,List.length_cons,List.cons_append,List.cons_append]
  congr 3
  rw [show g+2+2*a.length=g+2*(a.length+1) by omega]
theorem zaE {o:List Int} {i:Nat} (h:i<o.length):za9 0 (o.take (i+1))=za9 0 (o.take i)++[(((2*i:Nat):Int),o[i]),(((2*i:Nat):Int)+1,-1)]:=by
 rw [List.take_succ_eq_append_getElem h,zaD,List.length_take,Nat.min_eq_left (by omega),Nat.zero_add]; rfl
theorem zaF:∀ (g:Nat) (o:List Int),(za9 g o).length=2*o.length
 | g,[]=>rfl
 | g,x :: o=>by rw [za9,List.length_cons,List.length_cons,zaF,List.length_cons]; omega
theorem zaG:∀ (g k:Nat),(zaA g k).length=k
 | g,0=>rfl
 | g,k+1=>by rw [zaA,List.length_cons,zaG]
theorem zaH (g:Nat):∀ (n k:Nat),k<=n->∃ a,zaA g n=a++zaA (g+(n - k)) k/\a.length=n - k
 | n,k,h=>by
  induction n generalizing g with
  | zero=>exact ⟨[],by rw [show k=0 by omega]; rfl,by simp⟩
  | succ n ih =>
   by_cases e:k=n+1
   ·subst e
    exact ⟨[],by rw [Nat.sub_self]; rfl,by simp⟩
   ·obtain ⟨a,h1,h2⟩:=ih (g+1) (by omega)
    refine ⟨((g:Int),((n+1:Nat):Int)) :: a,?_,by rw [List.length_cons,h2]; omega⟩
    rw [zaA,h1,show g+1+(n - k)=g+(n+1 - k) by omega]; rfl
end Go.V
namespace Go.V
open Go Go.Proofs

theorem zDV.argsW {E:Env} {f:Nat} {xs ys:List AV} {σ:zA6} {Q:AV->zA6->Prop} (h:zDV E f ys σ Q) (hw:WkL xs ys):zDV E f xs σ Q :=
 ⟨fun g w vs hG hS hv=>h.run g w vs hG hS (hw.rv hv)⟩
def zaI (tid sz:Nat) (σ:zA6) (v:AV) (n:Nat) (cells:List AV):Prop :=
 (v = .nilslice/\n=0/\cells=[])\/∃ (id:Nat) (cs:List AV) (g:Bool),v = .rslice id 0 n/\id<σ.next/\σ.objs id = .cells cs tid sz g/\n*sz<=cs.length/\cs.take (n*sz)=cells
theorem zaI.nil {tid sz:Nat} {σ:zA6}:zaI tid sz σ .nilslice 0 []:=.inl ⟨rfl,rfl,rfl⟩
theorem zaI.one {tid sz k:Nat} {σ:zA6} {new:List AV} (h:new.length=k*sz):zaI tid sz (σ.new (.cells new tid sz true)) (.rslice σ.next 0 k) k new :=
 .inr ⟨σ.next,new,true,rfl,Nat.lt_succ_self _,zA6.new_objs _ _,by omega,by rw [<-h,List.take_length]⟩
theorem zaI.first {tid sz n k:Nat} {σ:zA6} {cells new:List AV} (hn:n=0) (hc:cells=[]) (h:new.length=k*sz):zaI tid sz (σ.new (.cells new tid sz true)) (.rslice σ.next 0 k) (n+k) (cells++new):=by
 subst hn hc
 rw [Nat.zero_add,List.nil_append]
 exact zaI.one h
theorem zaI.more {tid sz n k id:Nat} {σ:zA6} {cs cells new:List AV} (h1:n*sz<=cs.length) (h2:cs.take (n*sz)=cells) (h:new.length=k*sz) :
  zaI tid sz ((σ.set id .dead).new (.cells (cs.take (n*sz)++new) tid sz true)) (.rslice σ.next 0 (n+k)) (n+k) (cells++new):=by
 refine .inr ⟨σ.next,_,true,rfl,Nat.lt_succ_self _,zA6.new_objs (σ.set id .dead) _,?_,?_⟩
 ·rw [List.length_append,List.length_take,Nat.min_eq_left h1,h,Nat.add_mul]; exact Nat.le_refl _
 ·rw [<-h2,List.take_of_length_le]
  rw [List.length_append,List.length_take,Nat.min_eq_left h1,h,Nat.add_mul]; exact Nat.le_refl _
theorem zaI.untok {tid sz n:Nat} {σ:zA6} {v:AV} {cells:List AV} (h:zaI tid sz σ v n cells):zaI tid sz σ.untok v n cells:=by
 rcases h with h | ⟨id,cs,g,h0,h1,h2,h3⟩
 ·exact .inl h
 ·exact .inr ⟨id,cs,g,h0,h1,zV8 h2,h3⟩
theorem zaI.skip {tid sz n:Nat} {σ:zA6} {v:AV} {cells:List AV} (h:zaI tid sz σ v n cells) (o:zA5):zaI tid sz (σ.new o) v n cells:=by
 rcases h with h | ⟨id,cs,g,h0,h1,h2,h3⟩
 ·exact .inl h
 ·refine .inr ⟨id,cs,g,h0,Nat.lt_succ_of_lt h1,?_,h3⟩
  show (if id=σ.next then o else σ.objs id)=_
  rw [if_neg (by omega)]; exact h2
theorem zaI.toT {σ:zA6} {v:AV} {acc:List T} (h:zaI 37 4 σ v acc.length (zA0 (tcellL acc))):zUG σ v acc:=by
 rcases h with ⟨rfl,h,_⟩ | ⟨id,cs,g,h0,h1,h2,h3,h4⟩
 ·exact .inl ⟨rfl,List.length_eq_zero_iff.1 h⟩
 ·exact .inr ⟨id,cs,g,h0,h2,h3,h4⟩
theorem zaJ {α:Type} {sz:Nat} (V:α->List AV) (hV:∀ x,(V x).length=sz):∀ l:List α,zAH (some sz) (zA0 (l.map fun x => .agg (V x))) l.length=l.map fun x => .agg (V x)
 | []=>rfl
 | x :: l=>by
  rw [List.map_cons,zC3,List.length_cons]
  show AV.agg ((V x++zA0 (l.map fun x => .agg (V x))).take sz) :: zAH (some sz) ((V x++zA0 (l.map fun x => .agg (V x))).drop sz) l.length=_
  rw [List.take_left' (hV x),List.drop_left' (hV x),zaJ V hV l]
theorem zaI.deep {α:Type} {tid sz m:Nat} {σ:zA6} {v:AV} (V:α->List AV) (acc:List α) (hV:∀ x,(V x).length=sz) (hs:0<sz) (hk:zAC Tryz.prog tid=some (some sz))
  (hd:(acc.map fun x=>AV.agg (V x)).mapM (deep Tryz.prog σ m)=some (acc.map fun x => .agg (V x))) (h:zaI tid sz σ v acc.length (zA0 (acc.map fun x => .agg (V x)))) :
  ∃ v',deep Tryz.prog σ (m+1) v=some v'/\Wk v' (.slice sz (acc.map fun x => .agg (V x)) .any):=by
 rcases h with ⟨rfl,h,_⟩ | ⟨id,cs,g,rfl,h1,h2,h3,h4⟩
 ·rw [List.length_eq_zero_iff.1 h]
  exact ⟨.nilslice,rfl,Wk.nil sz⟩
 ·refine ⟨.slice sz (acc.map fun x => .agg (V x)) .nn,?_,Wk.slice _ _ _⟩
  refine zP5 (n:=m) (off:=0) (len:=acc.length) h2 hk rfl hs (by rw [Nat.zero_add]; exact h3) ?_
  rw [Nat.zero_mul,List.drop_zero,h4,zaJ V hV]
  exact hd
end Go.V
namespace Go.V
open Go Go.Proofs
variable (B:Nat) (w0:World) (G:Nat->AV)
def zaK (ls:List (List T)) (i:Nat) (l:List T) (I:Nat->Prop):LS Nat where
 F j:=[(9,.v (.slice 1 (lsV ls) .any)),(10,.v (iZ (ls.length:Int))),(11,.v (iZ (i:Int))),(15,.v (slV l)),(16,.v (iZ (l.length:Int))),(17,.v (iZ (j:Int)))]
 FL _:=[]
 S _:=zJZ
 I:=I
 μ j:=l.length - j
 Ex j e a σ:=match e with
  | .exit 2=>¬ (j<l.length)/\atF a [(9,.v (.slice 1 (lsV ls) .any)),(10,.v (iZ (ls.length:Int))),(11,.v (iZ (i:Int)))] [] (zJZ.Le σ)
  | .ret=>(∃ x∈l,grT x=false)/\atF a [(2,.v (iZ 3))] [] True
  | _=>False
def N59v:zIE:=hAt [(3,0,hSl),(6,0,hT)]
theorem vc59vi (ls:List (List T)) (i:Nat) (l:List T) (I:Nat->Prop) (j:Nat):(wpX [] (EV B w0 G) (H59 (EV B w0 G)) nL (zHI 59) N59v (zKH (zKJ [] (zKG Tryz.prog [] 59 0) 0)) ((zaK ls i l I).post j) (frm ((zaK ls i l I).F j) []) zJZ) =
 (bcase (decide ((j:Int)<(List.length l:Int)))
 (((0:Int)<=(j:Int)/\(j:Int)<(List.length (tcellL l):Int))/\∃ x0:T,AV.vptr (AV.cells (List.getD (tcellL l) (Int.toNat (↑j:Int)) AV.undef))=AV.vptr (tc x0)/\∃ t1:T,[AV.agg (tc x0)]=[AV.agg (tc t1)]/\bcase (((zND t1):Int) != 0)
 ((∃ x2:T,x2∈l/\grT x2=false)/\Rf (TV.v (iZ 3))/\True)
 (bcase (!(grT t1))
 ((∃ x2:T,x2∈l/\grT x2=false)/\Rf (TV.v (iZ 3))/\True)
 (∃ x'2:Nat,(I x'2/\LS.μ (zaK ls i l I) x'2<LS.μ (zaK ls i l I) j)/\Rf (TV.v (AV.slice 1 (lsV ls) Cap.any))/\Rf (TV.v (iZ (List.length ls:Int)))/\Rf (TV.v (iZ (i:Int)))/\Rf (TV.v (sT l))/\Rf (TV.v (iZ (List.length l:Int)))/\TV.v (iZ (IntKind.wrap .i64 ((j:Int)+1)))=TV.v (iZ (x'2:Int))/\zA6.Le ((zaK ls i l I).3 x'2) (Ut zJZ))))
 (((j<List.length l)->False)/\Rf (TV.v (AV.slice 1 (lsV ls) Cap.any))/\Rf (TV.v (iZ (List.length ls:Int)))/\Rf (TV.v (iZ (i:Int)))/\zA6.Le zJZ zJZ)):=by kernel_rfl
def zaL (ls:List (List T)) (I:Nat->Prop):LS Nat where
 F i:=[(9,.v (.slice 1 (lsV ls) .any)),(10,.v (iZ (ls.length:Int))),(11,.v (iZ (i:Int)))]
 FL _:=[]
 S _:=zJZ
 I:=I
 μ i:=ls.length - i
 Ex i e a σ:=match e with
  | .exit 0=>¬ (i<ls.length)/\atF a [] [] True
  | .ret=>(∃ l∈ls,∃ x∈l,grT x=false)/\atF a [(2,.v (iZ 3))] [] True
  | _=>False
def T59vi (ls:List (List T)) (P:Nat->List T->Prop):zFV:=fun _ Q a σ=>∃ (i:Nat) (l:List T),P i l/\atF a ((zaK ls i l (fun _=>True)).F 0) [] (zJZ.Le σ) /\
 (((∀ x∈l,grT x=true)->∀ σ':zA6,zJZ.Le σ'->Q (.exit 2) (frm [(9,.v (.slice 1 (lsV ls) .any)),(10,.v (iZ (ls.length:Int))),(11,.v (iZ (i:Int)))] []) zJZ) /\
  ((∃ x∈l,grT x=false)->∀ σ':zA6,Q .ret (frm [(2,.v (iZ 3))] []) σ'))
theorem vc59vl (ls:List (List T)) (P:Nat->List T->Prop) (I:Nat->Prop) (i:Nat):(wpX [] (EV B w0 G) (H59 (EV B w0 G)) (T59vi ls P) (zHI 59) N59v (lB 59 0) ((zaL ls I).post i) (frm ((zaL ls I).F i) []) zJZ) =
 (bcase (decide ((i:Int)<(List.length ls:Int)))
 (((0:Int)<=(i:Int)/\(i:Int)<(List.length (lsV ls):Int))/\∃ x0:List T,AV.vptr (AV.cells (List.getD (lsV ls) (Int.toNat (↑i:Int)) AV.undef))=AV.vptr [sT x0]/\∃ i1:Nat,∃ l2:List T,P i1 l2/\(Rf (TV.v (AV.slice 1 (lsV ls) Cap.any))/\Rf (TV.v (iZ (List.length ls:Int)))/\TV.v (iZ (i:Int))=TV.v (iZ (i1:Int))/\TV.v (sT x0)=TV.v (sT l2)/\TV.v (iZ (List.length (tcellL x0):Int))=TV.v (iZ (List.length l2:Int))/\Rf (TV.v (iZ 0))/\zA6.Le zJZ zJZ)/\((∀ x3:T,((x3∈l2)->(grT x3=true)))->(∀ σ'3:zA6,((zA6.Le zJZ σ'3)->(∃ x'4:Nat,(I x'4/\LS.μ (zaL ls I) x'4<LS.μ (zaL ls I) i)/\Rf (TV.v (AV.slice 1 (lsV ls) Cap.any))/\Rf (TV.v (iZ (List.length ls:Int)))/\TV.v (iZ (IntKind.wrap .i64 ((i1:Int)+1)))=TV.v (iZ (x'4:Int))/\zA6.Le ((zaL ls I).3 x'4) zJZ))))/\((∃ x3:T,x3∈l2/\grT x3=false)->(∀ σ'3:zA6,(∃ l4:List T,l4∈ls/\∃ x5:T,x5∈l4/\grT x5=false)/\Rf (TV.v (iZ 3))/\True)))
 (((i<List.length ls)->False)/\True)):=by kernel_rfl
def T59v (ls:List (List T)):zFV:=fun _ Q a σ=>atF a ((zaL ls (fun _=>True)).F 0) [] (zJZ.Le σ) /\
 (((∀ l∈ls,∀ x∈l,grT x=true)->∀ σ':zA6,Q (.exit 0) (frm [] []) σ')/\((∃ l∈ls,∃ x∈l,grT x=false)->∀ σ':zA6,Q .ret (frm [(2,.v (iZ 3))] []) σ'))
theorem vc59v (ls:List (List T)) (Q:AV->zA6->Prop):(zKD [] (EV B w0 G) (H59 (EV B w0 G)) (T59v ls) zHI N59v 59 [.slice 1 (lsV ls) .any] zJZ Q) =
 ((Rf (TV.v (AV.slice 1 (lsV ls) Cap.any))/\TV.v (iZ (List.length (lsV ls):Int))=TV.v (iZ (List.length ls:Int))/\Rf (TV.v (iZ 0))/\zA6.Le zJZ zJZ)/\((∀ l0:List T,((l0∈ls)->(∀ x1:T,((x1∈l0)->(grT x1=true)))))->(∀ σ'0:zA6,Q (iZ 0) σ'0))/\((∃ l0:List T,l0∈ls/\∃ x1:T,x1∈l0/\grT x1=false)->(∀ σ'0:zA6,Q (iZ 3) σ'0))):=by kernel_rfl
def C59v:zJC:=fun args σ K=>∃ ls:List (List T),args=[.slice 1 (lsV ls) .any]/\((ls.length<=1000000/\∀ l∈ls,l.length<=1000000)/\K (iZ (if ls.all (fun l=>l.all grT)=true then 0 else 3)) σ.untok)
theorem vc74 (ls:List (List T)) (Q:AV->zA6->Prop):(zKD [] (EV B w0 G) (hnd (EV B w0 G) zHI zMU [(59,C59v)]) nL zHI zMV 74 [.slice 1 (lsV ls) .any] zJZ Q) =
 (bcase (decide ((List.length (lsV ls):Int) > 8))
 (Q (iZ 1) zJZ)
 (∃ ls0:List (List T),[AV.slice 1 (lsV ls) Cap.any]=[AV.slice 1 (lsV ls0) Cap.any]/\(List.length ls0<=1000000/\(∀ l1:List T,((l1∈ls0)->(List.length l1<=1000000))))/\Q (iZ (if (List.all ls0 fun l=>List.all l grT)=Bool.true then 0 else 3)) (Ut zJZ))):=by kernel_rfl
def C164 (N:Nat):zJC:=fun args σ K=>∃ t:T,args=[.agg (tc t)]/\((t.small/\SizeOf.sizeOf t<N)/\K (.agg (tc t)) σ.untok)
def zaM (t:T) (I:zUC->Prop):LS zUC where
 F y:=[(1,.l 1 0),(2,.l 2 0),(3,.v y.v),(7,.v (slV t.l)),(8,.v (iZ (t.l.length:Int))),(9,.v (iZ (y.i:Int)))]
 FL _:=[(1,tc t),(2,zNK)]
 S y:=y.σ
 I:=I
 μ y:=t.l.length - y.i
 Ex y e a σ:=match e with
  | .exit 0=>¬ (y.i<t.l.length)/\atF a [(1,.l 1 0),(2,.l 2 0),(3,.v y.v)] [(1,tc t),(2,zNK)] (y.σ.Le σ)
  | _=>False
def H164 (E:Env) (N:Nat):zDY:=hnd E zHI zMU [(164,C164 N)]
def N164:zIE:=hAt [(4,0,hT),(5,0,zP6),(5,4,hEl 37 4)]
theorem zaN:zKE Tryz.prog [] 164=[.loop (lB 164 0)]:=by kernel_rfl
theorem vc164l (N:Nat) (t:T) (I:zUC->Prop) (σ:zA6) (v:AV) (i:Nat):(wpX [] (EV B w0 G) (H164 (EV B w0 G) N) nL (zHI 164) N164 (lB 164 0) ((zaM t I).post ⟨σ,v,i⟩) (frm ((zaM t I).F ⟨σ,v,i⟩) ((zaM t I).FL ⟨σ,v,i⟩)) σ) =
 (bcase (decide ((i:Int)<(List.length (T.l t):Int)))
 (((0:Int)<=(i:Int)/\(i:Int)<(List.length (tcellL (T.l t)):Int))/\∃ x0:T,AV.vptr (AV.cells (List.getD (tcellL (T.l t)) (Int.toNat (↑i:Int)) AV.undef))=AV.vptr (tc x0)/\((v=AV.nilslice/\∃ t1:T,[AV.agg (tc x0)]=[AV.agg (tc t1)]/\(T.small t1/\SizeOf.sizeOf t1<N)/\Bd0 56 1/\∃ x'2:zUC,(I x'2/\LS.μ (zaM t I) x'2<LS.μ (zaM t I) (zUC.mk σ v i))/\Rf (TV.l 1 0)/\Rf (TV.l 2 0)/\TV.v (AV.rslice (zA6.next σ) 0 1)=TV.v (zUC.v x'2)/\Rf (TV.v (sT (T.l t)))/\Rf (TV.v (iZ (List.length (T.l t):Int)))/\TV.v (iZ (IntKind.wrap .i64 ((i:Int)+1)))=TV.v (iZ (zUC.i x'2:Int))/\Rf (tc t)/\Rf [iZ 0,iZ 0,AV.str ⟨⟨[]⟩⟩,AV.nilslice]/\zA6.Le ((zaM t I).3 x'2) (zA6.new (Ut σ) (zA5.cells (tc t1) 37 4 true)))\/∃ x1:RS,v=AV.rslice (RS.id x1) 0 (RS.n x1)/\∃ t2:T,[AV.agg (tc x0)]=[AV.agg (tc t2)]/\(T.small t2/\SizeOf.sizeOf t2<N)/\∃ a3:OE,zA6.objs (Ut σ) (RS.id x1)=zA5.cells (OE.cs a3) 37 4 (OE.g a3)/\((0:Nat)=0/\Bd ((RS.n x1)+1) 56/\(((RS.n x1)*4):Nat)<=List.length (OE.cs a3))/\∃ x'4:zUC,(I x'4/\LS.μ (zaM t I) x'4<LS.μ (zaM t I) (zUC.mk σ v i))/\Rf (TV.l 1 0)/\Rf (TV.l 2 0)/\TV.v (AV.rslice (zA6.next σ) 0 ((RS.n x1)+1))=TV.v (zUC.v x'4)/\Rf (TV.v (sT (T.l t)))/\Rf (TV.v (iZ (List.length (T.l t):Int)))/\TV.v (iZ (IntKind.wrap .i64 ((i:Int)+1)))=TV.v (iZ (zUC.i x'4:Int))/\Rf (tc t)/\Rf [iZ 0,iZ 0,AV.str ⟨⟨[]⟩⟩,AV.nilslice]/\zA6.Le ((zaM t I).3 x'4) (zA6.new (zA6.set (Ut σ) (RS.id x1) zA5.dead) (zA5.cells ((List.take ((RS.n x1)*4) (OE.cs a3))++(tc t2)) 37 4 true))))
 (((i<List.length (T.l t))->False)/\Rf (TV.l 1 0)/\Rf (TV.l 2 0)/\Rf (TV.v v)/\Rf (tc t)/\Rf [iZ 0,iZ 0,AV.str ⟨⟨[]⟩⟩,AV.nilslice]/\zA6.Le σ σ)):=by kernel_rfl
def T164 (t:T) (I R:zUC->Prop):zFV:=fun _ Q a σ=>∃ y:zUC,I y/\atF a ((zaM t I).F y) ((zaM t I).FL y) (y.σ.Le σ)/\∀ y':zUC,R y'->Q (.exit 0) (frm [(1,.l 1 0),(2,.l 2 0),(3,.v y'.v)] [(1,tc t),(2,zNK)]) y'.σ
theorem vc164 (N:Nat) (t:T) (I R:zUC->Prop) (Q:AV->zA6->Prop):(zKD [] (EV B w0 G) (H164 (EV B w0 G) N) (T164 t I R) zHI (hAt [(7,0,zP6)]) 164 [.agg (tc t)] zJZ Q) =
 (∃ y0:zUC,I y0/\(Rf (TV.l 1 0)/\Rf (TV.l 2 0)/\TV.v AV.nilslice=TV.v (zUC.v y0)/\Rf (TV.v (sT (T.l t)))/\TV.v (iZ (List.length (tcellL (T.l t)):Int))=TV.v (iZ (List.length (T.l t):Int))/\TV.v (iZ 0)=TV.v (iZ (zUC.i y0:Int))/\Rf (tc t)/\Rf [iZ 0,iZ 0,AV.str ⟨⟨[]⟩⟩,AV.nilslice]/\zA6.Le y0.1 zJZ)/\(∀ y'1:zUC,((R y'1)->((zUC.v y'1=AV.nilslice/\Q (AV.agg [iZ (T.k t),iZ (T.n t),AV.str (T.s t),AV.nilslice]) y'1.1)\/∃ x2:RS,zUC.v y'1=AV.rslice (RS.id x2) 0 (RS.n x2)/\Q (AV.agg [iZ (T.k t),iZ (T.n t),AV.str (T.s t),AV.rslice (RS.id x2) 0 (RS.n x2)]) y'1.1)))):=by kernel_rfl
theorem vc136 (N:Nat) (t:T) (Q:AV->zA6->Prop):(zKD [] (EV B w0 G) (hnd (EV B w0 G) zHI zMU [(66,C66),(164,C164 N)]) nL zHI zMV 136 [.agg (tc t)] zJZ Q) =
 (∃ t0:T,[AV.agg (tc t)]=[AV.agg (tc t0)]/\bcase (((zND t0):Int) != 0)
 (Q (AV.tuple [AV.agg [iZ 0,iZ 0,AV.str ⟨⟨[]⟩⟩,AV.nilslice],iZ 2]) (Ut zJZ))
 (∃ t1:T,[AV.agg (tc t)]=[AV.agg (tc t1)]/\(T.small t1/\SizeOf.sizeOf t1<N)/\Q (AV.tuple [AV.agg (tc t1),iZ 0]) (Ut (Ut zJZ)))):=by kernel_rfl
def C136:zJC:=fun args σ K=>∃ (l:List T),args=[.agg (zZB l zYQ)]/\K (.tuple [.agg (tc (if zND (zZC l zYQ)=0 then zZC l zYQ else Tz)),iZ (if zND (zZC l zYQ)=0 then 0 else 2)]) σ.untok
end Go.V
namespace Go.V
open Go Go.Proofs

theorem wI1 {i n:Nat} (h:i<n) (hn:n<=1099511627776):IntKind.wrap .i64 ((i:Int)+1)=((i+1:Nat):Int):=by
 rw [show ((i:Int)+1)=((i+1:Nat):Int) by omega,zN8 (by omega) (by omega)]
section
variable {B:Nat} {w0:World} {G:Nat->AV}
variable (hG:∀ i,zJV (G i))
include hG
theorem c59v_ok:zJD (EV B w0 G) 59 C59v:=by
 rintro args σ Q ⟨ls,rfl,⟨hlen,hb⟩,hQ⟩
 refine zN1 hG (fun v hv => ?_) (.int _ _) (fun Q hQ => ?_) hQ
 ·simp only [List.mem_cons,List.not_mem_nil,or_false] at hv
  subst hv; exact zQJ ls
 have hll:=zQF ls
 have hH:zIP (EV B w0 G) (H59 (EV B w0 G)):=zJJ (zKM B w0 G) (zJI (c103_ok hG) zJH)
 have yes:(∀ l∈ls,∀ x∈l,grT x=true)->∀ σ',Q (iZ 0) σ':=fun h σ'=>by
  have e:ls.all (fun l=>l.all grT)=true:=List.all_eq_true.2 fun l hl=>List.all_eq_true.2 fun x hx=>h l hl x hx
  rw [e] at hQ; exact hQ σ'
 have no:(∃ l∈ls,∃ x∈l,grT x=false)->∀ σ',Q (iZ 3) σ':=fun ⟨l,hl,x,hx,h⟩ σ'=>by
  have e:ls.all (fun l=>l.all grT)=false:=List.all_eq_false.2 ⟨l,hl,by rw [Bool.not_eq_true]; exact List.all_eq_false.2 ⟨x,hx,by rw [h]; simp⟩⟩
  rw [e] at hQ; exact hQ σ'
 refine zKF (cuts:=[]) (zKM B w0 G) hH (fun lp hl _ Q a' σ kk => ?_) ((vc59v B w0 G ls Q).mpr ⟨⟨rfl,by rw [hll],rfl,.refl _⟩,yes,no⟩)
 change lp∈zKE Tryz.prog [] 59 at hl
 rw [zQD] at hl
 simp only [List.mem_cons,List.not_mem_nil,or_false] at hl
 subst hl
 obtain ⟨hat0,hR1,hR2⟩:=kk
 let I:Nat->Prop:=fun i=>i<=ls.length/\∀ l∈ls.take i,∀ x∈l,grT x=true
 refine zK5 (zaL ls I) (x0:=0) (fun i hI => ?_) (fun i hI e a' σ hne kk => ?_) ⟨Nat.zero_le _,fun l hl=>by simp at hl⟩ hat0
 ·obtain ⟨hi,hgr⟩:i<=ls.length/\∀ l∈ls.take i,∀ x∈l,grT x=true:=hI
  refine zKC (cuts:=[]) hH (zKM B w0 G) _ _ _ _ (fun p hp hc Q a σ k => ?_) (by kernel_rfl) ((vc59vl B w0 G ls (fun k l=>k=i/\ls[i]? = some l) I i).mpr (zE2 (fun h => ?_) (fun h=>⟨fun h2 => ?_,trivial⟩)))
  ·have hp:p∈zKI [] (zKG Tryz.prog [] 59 0):=hp
   rw [zQE] at hp
   simp only [List.mem_cons,List.not_mem_nil,or_false] at hp
   subst hp
   obtain ⟨k,l,⟨rfl,hl⟩,hat1,hE1,hE2⟩:=k
   have hlen:=hb l (List.mem_of_getElem? hl)
   let J:Nat->Prop:=fun j=>j<=l.length/\∀ x∈l.take j,grT x=true
   refine zK5 (zaK ls k l J) (x0:=0) (fun j hJ => ?_) (fun j hJ e a' σ hne kk => ?_) ⟨Nat.zero_le _,fun x hx=>by simp at hx⟩ hat1
   ·obtain ⟨hj,hg⟩:j<=l.length/\∀ x∈l.take j,grT x=true:=hJ
    refine zP3 hH (zKM B w0 G) (by kernel_rfl) ((vc59vi B w0 G ls k l J j).mpr (zE2 (fun h => ?_) (fun h=>⟨fun h2 => ?_,rfl,rfl,rfl,.refl _⟩)))
    ·have h:(j:Int)<(l.length:Int):=of_decide_eq_true h
     have hk:j<l.length:=by omega
     have hm:=List.getElem_mem hk
     refine ⟨⟨by omega,by rw [zMH]; exact h⟩,l[j],by rw [Int.toNat_natCast]; exact zNA hk,l[j],rfl,zE2 (fun h=>⟨⟨_,hm,zQN (by simpa using h)⟩,rfl,trivial⟩) (fun h=>zE2 (fun h3=>⟨⟨_,hm,by simpa using h3⟩,rfl,trivial⟩) (fun h3 => ?_))⟩
     have h3:grT l[j]=true:=by simpa using h3
     refine ⟨j+1,⟨⟨hk,fun x hx => ?_⟩,?_⟩,rfl,rfl,rfl,rfl,rfl,?_,.refl _⟩
     ·rw [List.take_succ_eq_append_getElem hk] at hx
      rcases List.mem_append.1 hx with hx | hx
      ·exact hg x hx
      ·obtain rfl:x=l[j]:=by simpa using hx
       exact h3
     ·show l.length - (j+1)<l.length - j
      omega
     ·rw [wI1 hk (by omega)]
    ·have h:¬ (j:Int)<(l.length:Int):=of_decide_eq_false h
     omega
   ·obtain ⟨hj,hg⟩:j<=l.length/\∀ x∈l.take j,grT x=true:=hJ
    cases e with
    | exit q =>
     match q,kk with
     | 2,kk =>
      have hk:¬ j<l.length:=kk.1
      rw [show j=l.length by omega,List.take_length] at hg
      exact ⟨_,_,(zJM kk.2).1,(zJM kk.2).2,hE1 hg zJZ (.refl _)⟩
    | ret=>exact ⟨_,_,(zJM kk.2).1,.refl _,hE2 kk.1 _⟩
    | normal=>exact absurd rfl hne
    | _=>exact kk.elim
  ·have h:(i:Int)<(ls.length:Int):=of_decide_eq_true h
   have hk:i<ls.length:=by omega
   refine ⟨⟨by omega,by rw [hll]; exact h⟩,ls[i],by rw [Int.toNat_natCast,zQG hk]; rfl,i,ls[i],⟨rfl,List.getElem?_eq_getElem hk⟩,⟨rfl,rfl,rfl,rfl,by rw [zMH],rfl,.refl _⟩,fun h1 σ' _=>⟨i+1,⟨⟨hk,fun l hl => ?_⟩,?_⟩,rfl,rfl,?_,.refl _⟩,
    fun h2 σ'=>⟨⟨_,List.getElem_mem hk,h2⟩,rfl,trivial⟩⟩
   ·rw [List.take_succ_eq_append_getElem hk] at hl
    rcases List.mem_append.1 hl with hl | hl
    ·exact hgr l hl
    ·obtain rfl:l=ls[i]:=by simpa using hl
     exact h1
   ·show ls.length - (i+1)<ls.length - i
    omega
   ·rw [wI1 hk (by omega)]
  ·have h:¬ (i:Int)<(ls.length:Int):=of_decide_eq_false h
   omega
 ·obtain ⟨hi,hgr⟩:i<=ls.length/\∀ l∈ls.take i,∀ x∈l,grT x=true:=hI
  cases e with
  | exit j =>
   match j,kk with
   | 0,kk =>
    have hk:¬ i<ls.length:=kk.1
    rw [show i=ls.length by omega,List.take_length] at hgr
    exact ⟨_,_,(zJM kk.2).1,.refl _,hR1 hgr _⟩
  | ret=>exact ⟨_,_,(zJM kk.2).1,.refl _,hR2 kk.1 _⟩
  | normal=>exact absurd rfl hne
  | _=>exact kk.elim
def C74:zJC:=fun args σ K=>∃ ls:List (List T),args=[.slice 1 (lsV ls) .any]/\((ls.length<=1000000/\∀ l∈ls,l.length<=1000000)/\K (iZ (zR2 ls)) σ.untok)
theorem c74_ok:zJD (EV B w0 G) 74 C74:=by
 rintro args σ Q ⟨ls,rfl,hb,hQ⟩
 refine zN1 hG (fun v hv => ?_) (.int _ _) (fun Q hQ => ?_) hQ
 ·simp only [List.mem_cons,List.not_mem_nil,or_false] at hv
  subst hv; exact zQJ ls
 have hll:=zQF ls
 refine zKF (cuts:=[]) (zKM B w0 G) (zJJ (zKM B w0 G) (zJI (c59v_ok hG) zJH)) (fun lp hl _ Q a' σ' kk=>kk.elim) ((vc74 B w0 G ls Q).mpr (zE2 (fun h => ?_) (fun h=>⟨ls,rfl,hb,?_⟩)))
 ·have h:=of_decide_eq_true h
  unfold zR2 at hQ
  rw [if_pos (by omega)] at hQ
  exact hQ _
 ·have h:=of_decide_eq_false h
  unfold zR2 at hQ
  rw [if_neg (by omega)] at hQ
  exact hQ _
omit hG in
theorem zaO {σ:zA6} {t:T} {n:Nat} {v v':AV} (h:deep Tryz.prog σ (n+1) v=some v'):deep Tryz.prog σ (n+2) (.agg [iZ t.k,iZ t.n,.str t.s,v])=some (.agg [iZ t.k,iZ t.n,.str t.s,v']):=by
 have e:deep Tryz.prog σ (n+2) (.agg [iZ t.k,iZ t.n,.str t.s,v])=(([iZ t.k,iZ t.n,.str t.s,v]:List AV).mapM (deep Tryz.prog σ (n+1))).map .agg:=rfl
 rw [e]
 have h1:deep Tryz.prog σ (n+1) (iZ t.k)=some (iZ t.k):=rfl
 have h2:deep Tryz.prog σ (n+1) (iZ t.n)=some (iZ t.n):=rfl
 have h3:deep Tryz.prog σ (n+1) (.str t.s)=some (.str t.s):=rfl
 simp only [List.mapM_cons,List.mapM_nil,h,h1,h2,h3,Option.bind_eq_bind,Option.bind_some,Option.pure_def,Option.map_some]
theorem zaP:∀ N,zJD (EV B w0 G) 164 (C164 N)
 | 0=>by
  rintro args σ Q ⟨t,rfl,⟨_,hN⟩,hQ⟩
  omega
 | N+1=>by
  rintro args σ Q ⟨t,rfl,⟨hs,hN⟩,hQ⟩
  have hH:zIP (EV B w0 G) (H164 (EV B w0 G) N):=zJJ (zKM B w0 G) (zJI (zaP N) zJH)
  have h64:=T.small_len hs
  refine zDV.pureD (2*SizeOf.sizeOf t.l+4) hG (Q0:=fun v σ'=>∃ w,v = .agg [iZ t.k,iZ t.n,.str t.s,w]/\zUG σ' w t.l) (fun v hv => ?_) ?_ (fun v σ' k => ?_)
  ·simp only [List.mem_cons,List.not_mem_nil,or_false] at hv
   subst hv; exact zMK t
  rotate_left
  ·obtain ⟨w,rfl,hO⟩:=k
   obtain ⟨v',h1,h2⟩:=hO.deep
   exact ⟨_,_,zaO h1,Wk.agg (.cons (.refl _) (.cons (.refl _) (.cons (.refl _) (.cons h2 .nil)))),zMK t,hQ⟩
  let I:zUC->Prop:=fun y=>y.i<=t.l.length/\zaI 37 4 y.σ y.v y.i (zA0 (tcellL (t.l.take y.i)))
  let R:zUC->Prop:=fun y=>zaI 37 4 y.σ y.v t.l.length (zA0 (tcellL t.l))
  refine zKF (cuts:=[]) (zKM B w0 G) hH (fun lp hl _ Q a' σ kk => ?_) ((vc164 B w0 G N t I R _).mpr ⟨⟨zJZ,.nilslice,0⟩,⟨Nat.zero_le _,.nil⟩,⟨rfl,rfl,rfl,rfl,by rw [zMH],rfl,rfl,rfl,.refl _⟩,fun y' hy => ?_⟩)
  rotate_left
  ·obtain ⟨σy,v,i⟩:=y'
   have hy:zaI 37 4 σy v t.l.length (zA0 (tcellL t.l)):=hy
   have hT:=hy.toT
   rcases hy with ⟨rfl,_⟩ | ⟨id,cs,g,rfl,_⟩
   ·exact .inl ⟨rfl,_,rfl,hT⟩
   ·exact .inr ⟨⟨id,t.l.length⟩,rfl,_,rfl,hT⟩
  change lp∈zKE Tryz.prog [] 164 at hl
  rw [zaN] at hl
  simp only [List.mem_cons,List.not_mem_nil,or_false] at hl
  subst hl
  obtain ⟨y0,hI0,hat,hR⟩:=kk
  refine zK5 (zaM t I) (x0:=y0) (fun y hI => ?_) (fun y hI e a' σ hne kk => ?_) hI0 hat
  ·obtain ⟨σy,v,i⟩:=y
   obtain ⟨hi,hO⟩:=hI
   change i<=t.l.length at hi
   change zaI 37 4 σy v i (zA0 (tcellL (t.l.take i))) at hO
   refine zP3 hH (zKM B w0 G) (by kernel_rfl) ((vc164l B w0 G N t I σy v i).mpr (zE2 (fun h => ?_) (fun h=>⟨fun h2 => ?_,rfl,rfl,rfl,rfl,rfl,.refl _⟩)))
   ·have h:(i:Int)<(t.l.length:Int):=of_decide_eq_true h
    have hk:i<t.l.length:=by omega
    have hm:=List.getElem_mem hk
    have hN':t.l[i].small/\SizeOf.sizeOf t.l[i]<N:=⟨T.small_mem hs hm,by have:=T.sizeOf_mem hm; omega⟩
    have e:zA0 (tcellL (t.l.take (i+1)))=zA0 (tcellL (t.l.take i))++tc t.l[i]:=by rw [List.take_succ_eq_append_getElem hk,zP8]
    refine ⟨⟨by show (0:Int)<=(i:Int); omega,by rw [zMH]; exact h⟩,t.l[i],by show AV.vptr (AV.cells (List.getD (tcellL t.l) (Int.toNat (i:Int)) AV.undef))=_; rw [Int.toNat_natCast]; exact zNA hk,?_⟩
    rcases hO.untok with ⟨rfl,h0,h1⟩ | ⟨id,cs,g,rfl,hlt,ho,hcl,hcs⟩
    ·refine .inl ⟨rfl,t.l[i],rfl,hN',⟨by omega,by omega⟩,⟨_,.rslice σy.next 0 1,i+1⟩,⟨⟨hk,?_⟩,?_⟩,rfl,rfl,rfl,rfl,rfl,?_,rfl,rfl,.refl _⟩
     ·show zaI 37 4 _ _ (i+1) (zA0 (tcellL (t.l.take (i+1))))
      rw [e]
      exact zaI.first (k:=1) h0 h1 rfl
     ·show t.l.length - (i+1)<t.l.length - i
      omega
     ·exact congrArg (fun z=>TV.v (iZ z)) (wI1 hk (by omega))
    ·refine .inr ⟨⟨id,i⟩,rfl,t.l[i],rfl,hN',⟨cs,g⟩,ho,⟨rfl,⟨by show (i+1)*56<=_; omega,by show i+1<=_; omega⟩,hcl⟩,⟨_,.rslice σy.next 0 (i+1),i+1⟩,⟨⟨hk,?_⟩,?_⟩,rfl,rfl,rfl,rfl,rfl,?_,rfl,rfl,.refl _⟩
     ·show zaI 37 4 _ _ (i+1) (zA0 (tcellL (t.l.take (i+1))))
      rw [e]
      exact zaI.more (k:=1) hcl hcs rfl
     ·show t.l.length - (i+1)<t.l.length - i
      omega
     ·exact congrArg (fun z=>TV.v (iZ z)) (wI1 hk (by omega))
   ·have h:¬ (i:Int)<(t.l.length:Int):=of_decide_eq_false h
    have h2:i<t.l.length:=h2
    omega
  ·obtain ⟨σy,v,i⟩:=y
   obtain ⟨hi,hO⟩:=hI
   change i<=t.l.length at hi
   change zaI 37 4 σy v i (zA0 (tcellL (t.l.take i))) at hO
   cases e with
   | exit j =>
    match j,kk with
    | 0,kk =>
     obtain ⟨hk,hat⟩:=kk
     have hk:¬ i<t.l.length:=hk
     rw [show i=t.l.length by omega,List.take_length] at hO
     exact ⟨_,_,(zJM hat).1,(zJM hat).2,hR ⟨σy,v,i⟩ hO⟩
   | normal=>exact absurd rfl hne
   | _=>exact kk.elim
theorem c136_ok:zJD (EV B w0 G) 136 C136:=by
 rintro args σ Q ⟨l,rfl,hQ⟩
 refine zDV.argsW (ys:=[.agg (tc (zZC l zYQ))]) ?_ (.cons (zZE l zYQ) .nil)
 revert hQ
 generalize zZC l zYQ=t
 intro hQ
 refine zSL hG (fun v hv => ?_) (.tuple fun v hv => ?_) (fun Q hQ => ?_) hQ
 ·simp only [List.mem_cons,List.not_mem_nil,or_false] at hv
  subst hv; exact zMK t
 ·simp only [List.mem_cons,List.not_mem_nil,or_false] at hv
  rcases hv with rfl | rfl
  ·exact zMK _
  ·exact .int _ _
 refine zKF (cuts:=[]) (zKM B w0 G) (zJJ (zKM B w0 G) (zJI (c66_ok hG) (zJI (zaP hG (SizeOf.sizeOf t+1)) zJH))) (fun lp hl _ Q a' σ' kk=>kk.elim) ((vc136 B w0 G (SizeOf.sizeOf t+1) t Q).mpr ⟨t,rfl,zE2 (fun h => ?_) (fun h=>⟨t,rfl,⟨zNO (by simpa using h),Nat.lt_succ_self _⟩,?_⟩)⟩)
 ·have h:¬ zND t=0:=by simpa using h
  rw [if_neg h,if_neg h] at hQ
  exact hQ _ _ (Wk.tuple (.cons (Wk.tcNil _ _ _) (.cons (.refl _) .nil)))
 ·have h:zND t=0:=by simpa using h
  rw [if_pos h,if_pos h] at hQ
  exact hQ _ _ (.refl _)
end
end Go.V
namespace Go.V
open Go Go.Proofs
variable (B:Nat) (w0:World) (G:Nat->AV)
structure zaQ where
 σ:zA6
 j:Nat
def YT163 (yid:Nat) (l:List T) (S:Nat->zA6->Prop):Nat->zJC:=fun id args σ K=>∃ (j:Nat) (x:T),(id=yid/\args=[iZ (j:Int),.agg (tc x)])/\((l[j]? = some x/\S (j+1) σ)/\∀ σ':zA6,S j σ'->K (.bool true) σ')
def hSl1 (l:List T):zIB:=zIB.of (fun g:Bool=>zA5.cells [slV l] 23 1 g)
def zaR (yid b:Nat) (I:zaQ->Prop):LS zaQ where
 F y:=[(0,.v (.yield yid)),(1,.v (.ptr b 0)),(3,.v (iZ ((y.j:Int) - 1)))]
 FL _:=[]
 S y:=y.σ
 I:=I
 μ y:=y.j
 Ex y e a σ:=match e with
  | .exit 0=>y.j=0/\atF a [] [] (y.σ.Le σ)
  | _=>False
def H163 (E:Env) (yid:Nat) (l:List T) (S:Nat->zA6->Prop):zDY:=handY (YT163 yid l S) (H0 E)
theorem zaS:zKE Tryz.prog [] 163=[.loop (lB 163 0)]:=by kernel_rfl
theorem vc163l (yid b:Nat) (l:List T) (S:Nat->zA6->Prop) (I:zaQ->Prop) (σ:zA6) (j:Nat):(wpX [] (EV B w0 G) (H163 (EV B w0 G) yid l S) nL (zHI 163) (hAt [(3,2,hSl1 l),(3,4,hT)]) (lB 163 0) ((zaR yid b I).post ⟨σ,j⟩) (frm ((zaR yid b I).F ⟨σ,j⟩) []) σ) =
 (bcase (decide ((((j:Int) - 1):Int) ≥ 0))
 (∃ a0:Bool,zA6.objs σ b=zA5.cells [sT l] 23 1 a0/\(0:Nat)<1/\((0:Int)<=((j:Int) - 1)/\(((j:Int) - 1):Int)<(List.length (tcellL l):Int))/\∃ x1:T,AV.vptr (AV.cells (List.getD (tcellL l) (Int.toNat ((↑j:Int) - 1)) AV.undef))=AV.vptr (tc x1)/\∃ j2:Nat,∃ x3:T,(yid=yid/\[iZ ((j:Int) - 1),AV.agg (tc x1)]=[iZ (j2:Int),AV.agg (tc x3)])/\(l[j2]? = Option.some x3/\S (j2+1) σ)/\(∀ σ'4:zA6,((S j2 σ'4)->(∃ x'5:zaQ,(I x'5/\LS.μ (zaR yid b I) x'5<LS.μ (zaR yid b I) (zaQ.mk σ j))/\Rf (TV.v (AV.yield yid))/\Rf (TV.v (AV.ptr b 0))/\TV.v (iZ (IntKind.wrap .i64 (((j:Int) - 1) - 1)))=TV.v (iZ ((zaQ.j x'5:Int) - 1))/\zA6.Le ((zaR yid b I).3 x'5) σ'4))))
 (j=0/\zA6.Le σ σ)):=by kernel_rfl
def T163 (yid b:Nat) (I R:zaQ->Prop):zFV:=fun _ Q a σ=>∃ y:zaQ,I y/\atF a ((zaR yid b I).F y) [] (y.σ.Le σ)/\∀ y':zaQ,R y'->Q (.exit 0) (frm [] []) y'.σ
theorem vc163 (yid b:Nat) (l:List T) (I R:zaQ->Prop) (σ:zA6) (Q:AV->zA6->Prop):(zKD [] (EV B w0 G) (H0 (EV B w0 G)) (T163 yid b I R) zHI (hAt [(0,0,hSl1 l)]) 163 [.yield yid,.ptr b 0] σ Q) =
 (∃ a0:Bool,zA6.objs σ b=zA5.cells [sT l] 23 1 a0/\(0:Nat)<1/\∃ y1:zaQ,I y1/\(Rf (TV.v (AV.yield yid))/\Rf (TV.v (AV.ptr b 0))/\TV.v (iZ (IntKind.wrap .i64 ((List.length (tcellL l):Int) - 1)))=TV.v (iZ ((zaQ.j y1:Int) - 1))/\zA6.Le y1.1 σ)/\(∀ y'2:zaQ,((R y'2)->(Q (AV.tuple []) y'2.1)))):=by kernel_rfl
def C135:zJC:=fun args σ K=>∃ l:List T,args=[slV l]/\K (.func (.func 163) [] [.ptr σ.next 0]) (σ.new (.cells [slV l] 23 1 false))
theorem vc135 (l:List T) (σ:zA6) (Q:AV->zA6->Prop):(zKD [] (EV B w0 G) (H0 (EV B w0 G)) nL zHI zMV 135 [slV l] σ Q) =
 (Q (AV.func (Go.Fn.func 163) [] [AV.ptr (zA6.next σ) 0]) (zA6.new σ (zA5.cells [sT l] 23 1 false))):=by kernel_rfl
structure zaT where
 k:Int
 n:Int
 s:ByteArray
 xs:List AV
 m:Cap
 g:Bool
def h117:zIB:=zIB.of (fun x:zaT=>zA5.cells [iZ x.k,iZ x.n,.str x.s,.slice 4 x.xs x.m] 37 4 x.g)
def N117:zIE:=hAt [(4,0,h117),(11,1,h117),(11,4,hEl 37 4),(12,0,h117)]
def zaU (P:Program):Code:=zKG P [] 117 0
theorem zaV:zKE Tryz.prog [] 117=[.rangeFunc (.tmp 27) #[28,29] (zPR (zaU Tryz.prog)) (zPS (zaU Tryz.prog))]:=by kernel_rfl
theorem vc117y (yid:Nat) (t:T) (σ:zA6) (Q:AV->zA6->Prop):(wpC (EV B w0 G) (H0 (EV B w0 G)) nL (zHI 117) N117 (zPR (zaU Tryz.prog)) (zPT (EV B w0 G) (H0 (EV B w0 G)) nL (zHI 117) N117 yid (zPS (zaU Tryz.prog)) Q) (frm [(3,.v (.ptr 0 0)),(29,.v (.agg (tc t)))] []) σ) =
 (∃ l0:zA4,zA6.objs σ yid=zA5.loop l0/\zA4.st l0=Go.LoopState.ready/\∃ a1:zaT,zA6.objs (zA6.set σ yid (zA5.loop (zA4.busy l0))) 0=zA5.cells [iZ (zaT.k a1),iZ (zaT.n a1),AV.str (zaT.s a1),AV.slice 4 (zaT.xs a1) (zaT.m a1)] 37 4 (zaT.g a1)/\(4:Nat)<=4/\∃ a2:OE,zA6.objs (zA6.set σ yid (zA5.loop (zA4.busy l0))) 0=zA5.cells (OE.cs a2) 37 4 (OE.g a2)/\(4:Nat)<=List.length (OE.cs a2)/\∃ l3:zA4,zA6.objs (zA6.set (zA6.set σ yid (zA5.loop (zA4.busy l0))) 0 (zA5.cells (zAF (OE.cs a2) 0 [iZ 5,iZ 0,AV.str ⟨⟨[46]⟩⟩,AV.slice 4 [AV.agg (tc t),AV.agg [iZ (zaT.k a1),iZ (zaT.n a1),AV.str (zaT.s a1),AV.slice 4 (zaT.xs a1) (zaT.m a1)]] Cap.full]) 37 4 (OE.g a2))) yid=zA5.loop l3/\Q (AV.bool true) (zA6.set (zA6.set (zA6.set σ yid (zA5.loop (zA4.busy l0))) 0 (zA5.cells (zAF (OE.cs a2) 0 [iZ 5,iZ 0,AV.str ⟨⟨[46]⟩⟩,AV.slice 4 [AV.agg (tc t),AV.agg [iZ (zaT.k a1),iZ (zaT.n a1),AV.str (zaT.s a1),AV.slice 4 (zaT.xs a1) (zaT.m a1)]] Cap.full]) 37 4 (OE.g a2))) yid (zA5.loop (zA4.again l3)))):=by kernel_rfl
def F117:List (Nat×TV):=[(3,.v (.ptr 0 0)),(4,.l 4 0),(27,.v (.func (.func 163) [] [.ptr 1 0]))]
def T117 (P R:zA6->Prop):zFV:=fun _ Q a σ=>∃ σ0:zA6,P σ0/\atF a F117 [(4,zNK)] (σ0.Le σ)/\∀ σ':zA6,R σ'->Q .normal (frm [(3,.v (.ptr 0 0)),(4,.l 4 0)] [(4,zNK)]) σ'
theorem vc117 (l:List T) (P R:zA6->Prop) (Q:AV->zA6->Prop):(zKD [] (EV B w0 G) (hnd (EV B w0 G) zHI zMU [(106,C106),(66,C66),(135,C135),(136,C136)]) (T117 P R) zHI N117 117 [slV l,.agg (tc zYQ)] zJZ Q) =
 (∃ l0:List T,[sT l]=[sT l0]/\List.length l0<=1000000/\bcase (((if zS5 l0=Bool.true then 0 else 3):Int) != 0)
 (Q (AV.tuple [AV.agg [iZ 0,iZ 0,AV.str ⟨⟨[]⟩⟩,AV.nilslice],iZ (if zS5 l0=Bool.true then 0 else 3)]) (Ut (zA6.new zJZ (zA5.cells [iZ 3,iZ 0,AV.str ⟨⟨[91,93]⟩⟩,AV.slice 4 [] Cap.any] 37 4 false))))
 (∃ a1:zaT,zA5.cells [iZ 3,iZ 0,AV.str ⟨⟨[91,93]⟩⟩,AV.slice 4 [] Cap.any] 37 4 false=zA5.cells [iZ (zaT.k a1),iZ (zaT.n a1),AV.str (zaT.s a1),AV.slice 4 (zaT.xs a1) (zaT.m a1)] 37 4 (zaT.g a1)/\(4:Nat)<=4/\∃ t2:T,[AV.agg [iZ (zaT.k a1),iZ (zaT.n a1),AV.str (zaT.s a1),AV.slice 4 (zaT.xs a1) (zaT.m a1)]]=[AV.agg (tc t2)]/\bcase (((zND t2):Int) != 0)
 (Q (AV.tuple [AV.agg [iZ 0,iZ 0,AV.str ⟨⟨[]⟩⟩,AV.nilslice],iZ (zND t2)]) (Ut (Ut (zA6.new zJZ (zA5.cells [iZ 3,iZ 0,AV.str ⟨⟨[91,93]⟩⟩,AV.slice 4 [] Cap.any] 37 4 false)))))
 (bcase (decide ((List.length (tcellL l):Int) > 600))
 (Q (AV.tuple [AV.agg [iZ 0,iZ 0,AV.str ⟨⟨[]⟩⟩,AV.nilslice],iZ 2]) (Ut (Ut (zA6.new zJZ (zA5.cells [iZ 3,iZ 0,AV.str ⟨⟨[91,93]⟩⟩,AV.slice 4 [] Cap.any] 37 4 false)))))
 (∃ l3:List T,[sT l]=[sT l3]/\∃ σ04:zA6,P σ04/\(Rf (TV.v (AV.ptr 0 0))/\Rf (TV.l 4 0)/\Rf (TV.v (AV.func (Go.Fn.func 163) [] [AV.ptr 1 0]))/\Rf [iZ 0,iZ 0,AV.str ⟨⟨[]⟩⟩,AV.nilslice]/\zA6.Le σ04 (zA6.new (Ut (Ut (zA6.new zJZ (zA5.cells [iZ 3,iZ 0,AV.str ⟨⟨[91,93]⟩⟩,AV.slice 4 [] Cap.any] 37 4 false)))) (zA5.cells [sT l3] 23 1 false)))/\(∀ σ'5:zA6,((R σ'5)->(∃ a6:zaT,zA6.objs σ'5 0=zA5.cells [iZ (zaT.k a6),iZ (zaT.n a6),AV.str (zaT.s a6),AV.slice 4 (zaT.xs a6) (zaT.m a6)] 37 4 (zaT.g a6)/\(4:Nat)<=4/\∃ l7:List T,[AV.agg [iZ (zaT.k a6),iZ (zaT.n a6),AV.str (zaT.s a6),AV.slice 4 (zaT.xs a6) (zaT.m a6)]]=[AV.agg (zZB l7 zYQ)]/\Q (AV.tuple [AV.agg (tc (if zND (zZC l7 zYQ)=0 then zZC l7 zYQ else Tz)),iZ (if zND (zZC l7 zYQ)=0 then 0 else 2)]) (Ut σ'5)))))))):=by kernel_rfl
def C117:zJC:=fun args σ K=>∃ l:List T,args=[slV l,.agg (tc zYQ)]/\(l.length<=1000000/\K (.tuple [.agg (tc (if za3 l=0 then zZC l zYQ else Tz)),iZ (za3 l)]) σ.untok)
end Go.V
