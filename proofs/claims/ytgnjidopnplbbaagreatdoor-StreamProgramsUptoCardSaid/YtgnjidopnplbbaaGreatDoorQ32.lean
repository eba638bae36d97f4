/- A part of the proof of the statement S8 (texts brought together and shortened by a program of this work). -/
import Derived.Test.YtgnjidopnplbbaaGreatDoorQ31
import Derived.Test.YtgnjidopnplbbaaGreatDoorQ13
import Derived.Test.YtgnjidopnplbbaaGreatDoorQ20
import Derived.Test.YtgnjidopnplbbaaGreatDoorQ28
import Derived.Test.YtgnjidopnplbbaaGreatDoorQ25
import Derived.Test.YtgnjidopnplbbaaGreatDoorQ18
set_option maxRecDepth 1000000
set_option linter.unusedVariables false
set_option linter.unusedSimpArgs false
set_option linter.unusedSectionVars false
namespace Go.V
open Go Go.Proofs

structure zY8 (c:Cl) (n:Int):Prop where
 m0:0<=c.mark
 m2:c.mark<=2
 head:(c.head.length:Int)=n
 guard:c.guard.length<=8
 body:c.body.length<=16
 tog:zS5 c.all=true
 size:sizeL c.all<=400
 vars:(zS7 c.all).length<=64
 sub:((zS7 c.guard).any fun v=>decide (v∉zS7 c.head))=false
 tests:c.guard.any zSA=false
 goals:c.body.any zS9=false
 norm:zS8 c.all c.vars=true
theorem zY9 {c:Cl} {n:Int}:zSC c n=true↔zY8 c n:=by
 constructor
 ·intro h
  unfold zSC zSB at h
  rw [Bool.and_eq_true,Bool.and_eq_true,Bool.and_eq_true,Bool.and_eq_true,Bool.and_eq_true,Bool.and_eq_true,Bool.and_eq_true,Bool.and_eq_true,Bool.and_eq_true,Bool.and_eq_true,Bool.and_eq_true,Bool.not_eq_true',Bool.not_eq_true',Bool.not_eq_true',decide_eq_true_eq,decide_eq_true_eq,decide_eq_true_eq,decide_eq_true_eq,decide_eq_true_eq,decide_eq_true_eq,decide_eq_true_eq] at h
  obtain ⟨⟨⟨a1,a2,a3,a4,a5⟩,⟨b1,b2⟩,b3,b4,b5,b6⟩,b7⟩:=h
  exact ⟨a1,a2,a3,a4,a5,b1,b2,b3,b4,b5,b6,b7⟩
 ·rintro ⟨a1,a2,a3,a4,a5,b1,b2,b3,b4,b5,b6,b7⟩
  unfold zSC zSB
  rw [decide_eq_true a1,decide_eq_true a2,decide_eq_true a3,decide_eq_true a4,decide_eq_true a5,b1,decide_eq_true b2,decide_eq_true b3,b4,b5,b6,b7]; rfl
theorem zYA {l:List T} {n:Int} (h:zS8 l n=true):((zS7 l).length:Int)=n:=by
 unfold zS8 at h
 rw [Bool.and_eq_true,decide_eq_true_eq,decide_eq_true_eq] at h
 exact h.2
structure zYB (q:Qu):Prop where
 len:q.goals.length<=16
 tog:zS5 q.goals=true
 size:sizeL q.goals<=400
 vars:q.vars<=64
 norm:zS8 q.goals q.vars=true
 goals:q.goals.any zS9=false
theorem zYC {q:Qu}:zSG q=true↔zYB q:=by
 constructor
 ·intro h
  unfold zSG at h
  rw [Bool.and_eq_true,Bool.and_eq_true,Bool.and_eq_true,Bool.and_eq_true,Bool.and_eq_true,Bool.not_eq_true',decide_eq_true_eq,decide_eq_true_eq,decide_eq_true_eq] at h
  obtain ⟨⟨a1,b1,b2⟩,b3,b4,b5⟩:=h
  exact ⟨a1,b1,b2,b3,b4,b5⟩
 ·rintro ⟨a1,b1,b2,b3,b4,b5⟩
  unfold zSG
  rw [decide_eq_true a1,b1,decide_eq_true b2,decide_eq_true b3,b4,b5]; rfl
theorem zYD {b:Bool} {P:Prop} (hi:b=true↔P) (h:¬ P):b=false:=by
 cases e:b with
 | false=>rfl
 | true=>exact absurd (hi.1 e) h
theorem zYE {α:Type} {P:α->Bool} {l:List α} {i:Nat} (h:i<l.length):(l.take (i+1)).any P=((l.take i).any P || P l[i]):=by
 rw [List.take_succ_eq_append_getElem h,List.any_append]; simp
theorem zYF {α:Type} {P:α->Bool} {l:List α} {i:Nat} (h:i<l.length) (hp:P l[i]=true):l.any P=true:=List.any_eq_true.2 ⟨l[i],List.getElem_mem h,hp⟩

section
variable {B:Nat} {w0:World} {G:Nat->AV}
theorem loop162a {c:Cl} {No:Prop} {lp:Code} (hlp:lp = .loop (lB 162 0)) (hG:∀ i,zJV (G i)) (hlen:c.guard.length<=300000) (hNo:c.guard.any zSA=true->No) {Q:zDW} {a:zDN} {σ:zA6} (k:T162a c No lp Q a σ):AWp (EV B w0 G) none (zJ8 Tryz.prog 162) lp Q a σ:=by
 subst hlp
 have hH:zIP (EV B w0 G) (hnd (EV B w0 G) zHI zMU [(187,C187)]):=zJJ (zKM B w0 G) (zJI (c187_ok hG) zJH)
 obtain ⟨hat,hR1,hR2⟩:=k
 refine zK5 (zXX c No) (x0:=0) (fun i hI => ?_) (fun i hI e a' σ hne kk => ?_) ⟨Nat.zero_le _,by simp⟩ hat
 ·obtain ⟨hi,hg⟩:i<=c.guard.length/\(c.guard.take i).any zSA=false:=hI
  refine zP3 hH (zKM B w0 G) (by kernel_rfl) ((vc162a B w0 G c No i).mpr (zE2 (fun h => ?_) (fun h=>⟨?_,rfl,rfl,.refl _⟩)))
  ·have h:=of_decide_eq_true h
   rw [zMH] at h
   have hi2:i<c.guard.length:=by omega
   have hst:=zYE (P:=zSA) hi2
   rw [hg,Bool.false_or] at hst
   refine ⟨⟨by omega,by rw [zMH]; omega⟩,c.guard[i],by rw [Int.toNat_natCast]; exact zNA hi2,c.guard[i],rfl,zE2 (fun h2=>⟨hNo (zYF hi2 h2),rfl,trivial⟩) (fun h2=>⟨i+1,⟨⟨hi2,by rw [hst]; exact h2⟩,?_⟩,rfl,?_,rfl,zSM⟩)⟩
   ·show c.guard.length - (i+1)<c.guard.length - i
    omega
   ·rw [show ((i:Int)+1)=((i+1:Nat):Int) by omega,zN8 (by omega) (by omega)]
  ·have h:=of_decide_eq_false h
   rw [zMH] at h
   rw [show i=c.guard.length by omega,List.take_length] at hg
   exact hg
 ·cases e with
  | exit j =>
   match j,kk with
   | 0,kk=>exact ⟨_,_,(zJM kk.2).1,(zJM kk.2).2,hR1 kk.1⟩
  | ret=>exact ⟨_,σ,(zJM kk.2).1,.refl _,hR2 kk.1 σ⟩
  | normal=>exact absurd rfl hne
  | _=>exact kk.elim
theorem loop162b {c:Cl} {No:Prop} {lp:Code} (hlp:lp = .loop (lB 162 1)) (hG:∀ i,zJV (G i)) (hlen:c.body.length<=300000) (hNo:c.body.any zS9=true->No) {Q:zDW} {a:zDN} {σ:zA6} (k:T162b c No lp Q a σ):AWp (EV B w0 G) none (zJ8 Tryz.prog 162) lp Q a σ:=by
 subst hlp
 have hH:zIP (EV B w0 G) (hnd (EV B w0 G) zHI zMU [(142,C142)]):=zJJ (zKM B w0 G) (zJI (zVY hG) zJH)
 obtain ⟨hat,hR1,hR2⟩:=k
 refine zK5 (zXY c No) (x0:=0) (fun i hI => ?_) (fun i hI e a' σ hne kk => ?_) ⟨Nat.zero_le _,by simp⟩ hat
 ·obtain ⟨hi,hg⟩:i<=c.body.length/\(c.body.take i).any zS9=false:=hI
  refine zP3 hH (zKM B w0 G) (by kernel_rfl) ((vc162b B w0 G c No i).mpr (zE2 (fun h => ?_) (fun h=>⟨?_,rfl,rfl,.refl _⟩)))
  ·have h:=of_decide_eq_true h
   rw [zMH] at h
   have hi2:i<c.body.length:=by omega
   have hst:=zYE (P:=zS9) hi2
   rw [hg,Bool.false_or] at hst
   refine ⟨⟨by omega,by rw [zMH]; omega⟩,c.body[i],by rw [Int.toNat_natCast]; exact zNA hi2,c.body[i],rfl,zE2 (fun h2=>⟨hNo (zYF hi2 h2),rfl,trivial⟩) (fun h2=>⟨i+1,⟨⟨hi2,by rw [hst]; exact h2⟩,?_⟩,rfl,?_,rfl,zSM⟩)⟩
   ·show c.body.length - (i+1)<c.body.length - i
    omega
   ·rw [show ((i:Int)+1)=((i+1:Nat):Int) by omega,zN8 (by omega) (by omega)]
  ·have h:=of_decide_eq_false h
   rw [zMH] at h
   rw [show i=c.body.length by omega,List.take_length] at hg
   exact hg
 ·cases e with
  | exit j =>
   match j,kk with
   | 2,kk=>exact ⟨_,_,(zJM kk.2).1,(zJM kk.2).2,hR1 kk.1⟩
  | ret=>exact ⟨_,σ,(zJM kk.2).1,.refl _,hR2 kk.1 σ⟩
  | normal=>exact absurd rfl hne
  | _=>exact kk.elim
theorem loop162c {hs gs:List Int} {No:Prop} {lp:Code} (hlp:lp = .loop (lB 162 2)) (hG:∀ i,zJV (G i)) (hl1:hs.length<=1000000) (hlen:gs.length<=1000000) (hNo:(gs.any fun v=>decide (v∉hs))=true->No) {Q:zDW} {a:zDN} {σ:zA6} (k:T162c hs gs No lp Q a σ):AWp (EV B w0 G) none (zJ8 Tryz.prog 162) lp Q a σ:=by
 subst hlp
 have hH:zIP (EV B w0 G) (hnd (EV B w0 G) zHI zMU [(149,C149v)]):=zJJ (zKM B w0 G) (zJI (c149v_ok hG) zJH)
 obtain ⟨hat,hR1,hR2⟩:=k
 refine zK5 (zXZ hs gs No) (x0:=0) (fun i hI => ?_) (fun i hI e a' σ hne kk => ?_) ⟨Nat.zero_le _,by simp⟩ hat
 ·obtain ⟨hi,hg⟩:i<=gs.length/\((gs.take i).any fun v=>decide (v∉hs))=false:=hI
  refine zP3 hH (zKM B w0 G) (by kernel_rfl) ((vc162c B w0 G hs gs No i).mpr (zE2 (fun h => ?_) (fun h=>⟨?_,.refl _⟩)))
  ·have h:=of_decide_eq_true h
   rw [zPA] at h
   have hi2:i<gs.length:=by omega
   have hst:=zYE (P:=fun v=>decide (v∉hs)) hi2
   rw [hg,Bool.false_or] at hst
   refine ⟨⟨by omega,by rw [zPA]; omega⟩,gs[i],by rw [Int.toNat_natCast]; exact zPB hi2,gs[i],hs,rfl,hl1,zE2 (fun h2=>⟨hNo (zYF hi2 ?_),rfl,trivial⟩) (fun h2=>⟨i+1,⟨⟨hi2,by rw [hst]; simpa using h2⟩,?_⟩,rfl,rfl,?_,zSM⟩)⟩
   ·simpa using h2
   ·show gs.length - (i+1)<gs.length - i
    omega
   ·rw [show ((i:Int)+1)=((i+1:Nat):Int) by omega,zN8 (by omega) (by omega)]
  ·have h:=of_decide_eq_false h
   rw [zPA] at h
   rw [show i=gs.length by omega,List.take_length] at hg
   exact hg
 ·cases e with
  | exit j =>
   match j,kk with
   | 4,kk=>exact ⟨_,_,(zJM kk.2).1,(zJM kk.2).2,hR1 kk.1⟩
  | ret=>exact ⟨_,σ,(zJM kk.2).1,.refl _,hR2 kk.1 σ⟩
  | normal=>exact absurd rfl hne
  | _=>exact kk.elim
variable (hG:∀ i,zJV (G i))
include hG
theorem zYG:zJD (EV B w0 G) 162 C162:=by
 rintro args σ Q ⟨c,arity,rfl,⟨⟨hb1,hb2,hb3⟩,hbk⟩,hQ⟩
 refine zN1 hG (fun x hx => ?_) (.bool _) (fun Q hQ => ?_) hQ
 ·simp only [List.mem_cons,List.not_mem_nil,or_false] at hx
  rcases hx with rfl | rfl
  ·exact zUM c
  ·exact .int _ _
 have hal:c.all.length=c.head.length+c.guard.length+c.body.length:=by unfold Cl.all; simp; omega
 have no:¬ zY8 c arity->∀ σ',Q (.bool false) σ':=fun h σ'=>by rw [zYD zY9 h] at hQ; exact hQ σ'
 have hH:zIP (EV B w0 G) (hnd (EV B w0 G) zHI zMU [(159,C159),(139,C139),(140,C140),(141,C141),(105,C105)]):=zJJ (zKM B w0 G) (zJI (zXF hG) (zJI (zX9 hG) (zJI (zXA hG) (zJI (zXU hG) (zJI (zXT hG) zJH)))))
 obtain ⟨hs,gs,hl1,hl2,hvs⟩:∃ hs gs:List Int,hs.length<=1000000/\gs.length<=1000000/\(zS5 c.all=true->hs=zS7 c.head/\gs=zS7 c.guard):=by
  by_cases h:zS5 c.all=true
  ·exact ⟨_,_,by have:=zUQ (zUP h).1; omega,by have:=zUQ (zUP h).2.1; omega,fun _=>⟨rfl,rfl⟩⟩
  ·exact ⟨[],[],by simp,by simp,fun h2=>absurd h2 h⟩
 refine zKF (cuts:=[]) (zKM B w0 G) hH (fun lp hl _ Q a' σ' kk => ?_) ((vc162 B w0 G c arity hs gs (c.guard.any zSA=true) (c.body.any zS9=true) ((gs.any fun v=>decide (v∉hs))=true) Q).mpr ?_)
 ·change lp∈zKE Tryz.prog [] 162 at hl
  rw [zY0] at hl
  simp only [List.mem_cons,List.not_mem_nil,or_false] at hl
  rcases hl with rfl | rfl | rfl
  ·refine zKL (P:=fun c Q a σ=>AWp (EV B w0 G) none (zJ8 Tryz.prog 162) c Q a σ) kk (fun _ k=>loop162a rfl hG hb2 id k) (fun k => ?_)
   refine zKL (P:=fun c Q a σ=>AWp (EV B w0 G) none (zJ8 Tryz.prog 162) c Q a σ) k (fun h k=>by rw [zY1.1] at h; cases h) (fun k => ?_)
   exact zKL (P:=fun c Q a σ=>AWp (EV B w0 G) none (zJ8 Tryz.prog 162) c Q a σ) k (fun h k=>by rw [zY1.1] at h; cases h) (fun k=>k.elim)
  ·refine zKL (P:=fun c Q a σ=>AWp (EV B w0 G) none (zJ8 Tryz.prog 162) c Q a σ) kk (fun h k=>by rw [zY1.2.1] at h; cases h) (fun k => ?_)
   refine zKL (P:=fun c Q a σ=>AWp (EV B w0 G) none (zJ8 Tryz.prog 162) c Q a σ) k (fun _ k=>loop162b rfl hG hb3 id k) (fun k => ?_)
   exact zKL (P:=fun c Q a σ=>AWp (EV B w0 G) none (zJ8 Tryz.prog 162) c Q a σ) k (fun h k=>by rw [zY1.2.1] at h; cases h) (fun k=>k.elim)
  ·refine zKL (P:=fun c Q a σ=>AWp (EV B w0 G) none (zJ8 Tryz.prog 162) c Q a σ) kk (fun h k=>by rw [zY1.2.2] at h; cases h) (fun k => ?_)
   refine zKL (P:=fun c Q a σ=>AWp (EV B w0 G) none (zJ8 Tryz.prog 162) c Q a σ) k (fun h k=>by rw [zY1.2.2] at h; cases h) (fun k => ?_)
   exact zKL (P:=fun c Q a σ=>AWp (EV B w0 G) none (zJ8 Tryz.prog 162) c Q a σ) k (fun _ k=>loop162c rfl hG hl1 hl2 id k) (fun k=>k.elim)
 have f1:=zMH c.head
 have f2:=zMH c.guard
 have f3:=zMH c.body
 rw [f1,f2,f3]
 refine ⟨c,rfl,⟨hb1,hb2,hb3⟩,c.all,rfl,⟨by omega,hbk⟩,zE2 (fun h=>no (fun e=>by rw [e.tog] at h; cases h) _) (fun hT => ?_)⟩
 have hT:zS5 c.all=true:=by simpa using hT
 obtain ⟨rfl,rfl⟩:=hvs hT
 refine ⟨c.all,rfl,⟨by omega,(zT6.1 hT).1,hbk⟩,zE2 (fun h=>no (fun e=>by have:=e.size; have:=of_decide_eq_true h; omega) _) (fun hs=>⟨c.all,c.vars,rfl,⟨hT,by omega⟩,zE2 (fun h=>no (fun e => ?_) _) (fun hn=>zE2 (fun h=>no (fun e=>by have:=e.m0; have:=of_decide_eq_true h; omega) _) (fun m0=>zE2 (fun h=>no (fun e=>by have:=e.m2; have:=of_decide_eq_true h; omega) _) (fun m2=>zE2 (fun h=>no (fun e=>by have:=e.head; simp at h; omega) _) (fun hd =>
  zE2 (fun h=>no (fun e=>by have:=e.guard; have:=of_decide_eq_true h; omega) _) (fun hgu=>zE2 (fun h=>no (fun e=>by have:=e.body; have:=of_decide_eq_true h; omega) _) (fun hbo=>⟨⟨rfl,rfl,rfl,zSM⟩,fun ha=>⟨⟨rfl,rfl,rfl,.refl _⟩,fun hb=>⟨c.head,rfl,⟨(zUP hT).1,by omega⟩,c.guard,rfl,⟨(zUP hT).2.1,by omega⟩,⟨rfl,rfl,rfl,zSM⟩,fun hc => ?_,fun hc σ'=>no (fun e=>by rw [e.sub] at hc; cases hc) _⟩,fun hb σ'=>no (fun e=>by rw [e.goals] at hb; cases hb) _⟩,fun ha σ'=>no (fun e=>by rw [e.tests] at ha; cases ha) _⟩))))))⟩)⟩
 ·have h3:=zYA e.norm
  have h4:=e.vars
  rw [e.norm,decide_eq_true (show c.vars<=64 by omega)] at h
  cases h
 ·rw [Bool.not_eq_false',Bool.and_eq_true,decide_eq_true_eq] at hn
  have h3:=zYA hn.1
  have hs:=of_decide_eq_false hs
  have m0:=of_decide_eq_false m0
  have m2:=of_decide_eq_false m2
  have hgu:=of_decide_eq_false hgu
  have hbo:=of_decide_eq_false hbo
  have hd:(c.head.length:Int)=arity:=by simpa using hd
  have hC:zY8 c arity:=⟨by omega,by omega,hd,by omega,by omega,hT,by omega,by omega,hc,ha,hb,hn.1⟩
  rw [zY9.2 hC] at hQ
  exact hQ _
end
end Go.V
namespace Go.V
open Go Go.Proofs

section
variable {B:Nat} {w0:World} {G:Nat->AV}
variable (hG:∀ i,zJV (G i))
include hG
theorem c123_ok:zJD (EV B w0 G) 123 C123:=by
 rintro args σ Q ⟨q,rfl,⟨hlen,hbk⟩,hQ⟩
 refine zN1 hG (fun x hx => ?_) (.bool _) (fun Q hQ => ?_) hQ
 ·simp only [List.mem_cons,List.not_mem_nil,or_false] at hx
  subst hx; exact zWO q
 have no:¬ zYB q->∀ σ',Q (.bool false) σ':=fun h σ'=>by rw [zYD zYC h] at hQ; exact hQ σ'
 have hH:zIP (EV B w0 G) (hnd (EV B w0 G) zHI zMU [(139,C139),(140,C140),(141,C141)]):=zJJ (zKM B w0 G) (zJI (zX9 hG) (zJI (zXA hG) (zJI (zXU hG) zJH)))
 have hL:zIP (EV B w0 G) (hnd (EV B w0 G) zHI zMU [(142,C142)]):=zJJ (zKM B w0 G) (zJI (zVY hG) zJH)
 refine zKF (cuts:=[]) (zKM B w0 G) hH (fun lp hl _ Q a' σ kk => ?_) ((vc123 B w0 G q (q.goals.any zS9=true) Q).mpr ?_)
 ·change lp∈zKE Tryz.prog [] 123 at hl
  rw [zY3] at hl
  simp only [List.mem_cons,List.not_mem_nil,or_false] at hl
  subst hl
  obtain ⟨hat,hR1,hR2⟩:=kk
  refine zK5 (zY2 q (q.goals.any zS9=true)) (x0:=0) (fun i hI => ?_) (fun i hI e a' σ hne kk => ?_) ⟨Nat.zero_le _,by simp⟩ hat
  ·obtain ⟨hi,hg⟩:i<=q.goals.length/\(q.goals.take i).any zS9=false:=hI
   refine zP3 hL (zKM B w0 G) (by kernel_rfl) ((vc123l B w0 G q (q.goals.any zS9=true) i).mpr (zE2 (fun h => ?_) (fun h=>⟨?_,trivial⟩)))
   ·have h:=of_decide_eq_true h
    rw [zMH] at h
    have hi2:i<q.goals.length:=by omega
    have hst:=zYE (P:=zS9) hi2
    rw [hg,Bool.false_or] at hst
    refine ⟨⟨by omega,by rw [zMH]; omega⟩,q.goals[i],by rw [Int.toNat_natCast]; exact zNA hi2,q.goals[i],rfl,zE2 (fun h2=>⟨zYF hi2 h2,rfl,trivial⟩) (fun h2=>⟨i+1,⟨⟨hi2,by rw [hst]; exact h2⟩,?_⟩,rfl,?_,rfl,zSM⟩)⟩
    ·show q.goals.length - (i+1)<q.goals.length - i
     omega
    ·rw [show ((i:Int)+1)=((i+1:Nat):Int) by omega,zN8 (by omega) (by omega)]
   ·have h:=of_decide_eq_false h
    rw [zMH] at h
    rw [show i=q.goals.length by omega,List.take_length] at hg
    exact hg
  ·cases e with
   | exit j =>
    match j,kk with
    | 0,kk=>exact ⟨_,σ,(zJM kk.2).1,.refl _,hR1 kk.1 σ⟩
   | ret=>exact ⟨_,σ,(zJM kk.2).1,.refl _,hR2 kk.1 σ⟩
   | normal=>exact absurd rfl hne
   | _=>exact kk.elim
 have f1:=zMH q.goals
 rw [f1]
 refine ⟨q.goals,rfl,⟨by omega,hbk⟩,zE2 (fun h=>no (fun e=>by rw [e.tog] at h; cases h) _) (fun hT => ?_)⟩
 have hT:zS5 q.goals=true:=by simpa using hT
 refine ⟨q.goals,rfl,⟨by omega,(zT6.1 hT).1,hbk⟩,zE2 (fun h=>no (fun e=>by have:=e.size; have:=of_decide_eq_true h; omega) _) (fun hs=>zE2 (fun h=>no (fun e=>by have:=e.len; have:=of_decide_eq_true h; omega) _) (fun hn=>⟨q.goals,q.vars,rfl,⟨hT,by omega⟩,zE2 (fun h=>no (fun e=>by rw [e.norm,decide_eq_true e.vars] at h; cases h) _) (fun hv=>⟨⟨rfl,rfl,rfl,zSM⟩,fun ha σ' => ?_,fun ha σ'=>no (fun e=>by rw [e.goals] at ha; cases ha) _⟩)⟩))⟩
 rw [Bool.not_eq_false',Bool.and_eq_true,decide_eq_true_eq] at hv
 have hs:=of_decide_eq_false hs
 have hn:=of_decide_eq_false hn
 rw [zYC.2 ⟨by omega,hT,by omega,hv.2,hv.1,ha⟩] at hQ
 exact hQ _
omit hG in
theorem zYH {tab:List Sym} {p:List Pr} {i:Nat} (h:i<p.length):zW6 tab (p.take (i+1))=(zW6 tab (p.take i)&&p[i].cls.all fun c=>zW5 tab p[i].arity c):=by
 unfold zW6
 exact zWH (P:=fun q:Pr=>q.cls.all fun c=>zW5 tab q.arity c) h
omit hG in
theorem tabS_max {p:List Pr} (h:64<p.length):zSE p=false:=by
 cases e:zSE p with
 | false=>rfl
 | true=>have:=(zWB.1 e).1; omega
theorem c138_ok:zJD (EV B w0 G) 138 C138:=by
 rintro args σ Q ⟨p,rfl,hp,hQ⟩
 have hlen:=hp.len
 refine zN1 hG (fun x hx => ?_) (.bool _) (fun Q hQ => ?_) hQ
 ·simp only [List.mem_cons,List.not_mem_nil,or_false] at hx
  rcases hx with rfl | rfl
  ·exact zWN p
  ·exact .nilslice
 rw [zWJ] at hQ
 obtain ⟨tab,htab⟩:∃ tab,tab=p.map Pr.sym:=⟨_,rfl⟩
 rw [<-htab] at hQ
 let No:Prop:=(zSE p&&zW6 tab p)=false
 let Yes:Prop:=(zSE p&&zW6 tab p)=true
 let I:Nat->Prop:=fun i=>p.length<=64/\i<=p.length/\zSE (p.take i)=true/\zW6 tab (p.take i)=true
 let P2:zW7->Nat->Prop:=fun g j=>j<=g.q.cls.length/\g.i<p.length/\p[g.i]? = some g.q/\((g.q.cls.take j).all fun c=>zW5 tab g.q.arity c)=true
 let R2:zW7->Prop:=fun g=>(g.q.cls.all fun c=>zW5 tab g.q.arity c)=true
 have hH:zIP (EV B w0 G) (hnd (EV B w0 G) zHI zMU [(162,C162),(124,C124)]):=zJJ (zKM B w0 G) (zJI (zYG hG) (zJI (zXH hG) zJH))
 have hL:zIP (EV B w0 G) (hnd (EV B w0 G) zHI zMU [(158,C158),(144,C144),(168,C168)]):=zJJ (zKM B w0 G) (zJI (zOE hG) (zJI (zXG hG) (zJI (zVX hG) zJH)))
 have noT:zSE p=false->No:=fun h=>by show (zSE p&&zW6 tab p)=false; rw [h]; rfl
 have noG:zW6 tab p=false->No:=fun h=>by show (zSE p&&zW6 tab p)=false; rw [h,Bool.and_false]
 refine zKF (cuts:=[]) (zKM B w0 G) zMZ (fun lp hl _ Q a' σ kk => ?_) ((vc138 B w0 G p I Yes No Q).mpr (zE2 (fun h => ?_) (fun h=>⟨⟨⟨?_,Nat.zero_le _,rfl,rfl⟩,rfl,rfl,rfl,rfl,.refl _⟩,fun h σ' => ?_,fun h σ' => ?_⟩)))
 ·change lp∈zKE Tryz.prog [] 138 at hl
  rw [zY7] at hl
  simp only [List.mem_cons,List.not_mem_nil,or_false] at hl
  subst hl
  obtain ⟨⟨hI0,hat⟩,hR1,hR2⟩:=kk
  refine zK5 (zY5 p I No) (x0:=0) (fun i hI => ?_) (fun i hI e a' σ hne kk => ?_) hI0 hat
  ·obtain ⟨hl,hi,ht,hg⟩:I i:=hI
   refine zKC (cuts:=[]) hL (zKM B w0 G) (L:=T138i p P2 R2 No) _ _ _ _ (fun lp hp2 hc Q a σ k => ?_) (by kernel_rfl) ((vc138l B w0 G p P2 R2 I No i).mpr (zE2 (fun h => ?_) (fun h=>⟨fun h2 => ?_,trivial⟩)))
   ·rw [parts138] at hp2
    simp only [List.mem_cons,List.not_mem_nil,or_false] at hp2
    subst hp2
    obtain ⟨g,hP,hat,hk1,hk2⟩:=k
    refine zK5 (zY6 p g (P2 g) No) (x0:=0) (fun j hI => ?_) (fun j hI e a' σ hne kk => ?_) hP hat
    ·obtain ⟨q,ip⟩:=g
     obtain ⟨hj,hip,hq,hall⟩:=hI
     change j<=q.cls.length at hj
     change ip<p.length at hip
     change p[ip]? = some q at hq
     change ((q.cls.take j).all fun c=>zW5 tab q.arity c)=true at hall
     have hqm:q∈p:=List.mem_of_getElem? hq
     have hcl:=hp.cls q hqm
     have bad:∀ hj:j<q.cls.length,zW5 tab q.arity q.cls[j]=false->No:=fun hj h=>noG (by
      have h2:(q.cls.all fun c=>zW5 tab q.arity c)=false:=zWI hj h
      rw [List.getElem?_eq_getElem hip] at hq
      refine zWI (P:=fun q:Pr=>q.cls.all fun c=>zW5 tab q.arity c) hip ?_
      rw [Option.some.inj hq]; exact h2)
     refine zP3 hH (zKM B w0 G) (by kernel_rfl) ((vc138i B w0 G p q ip (P2 ⟨q,ip⟩) No j).mpr (zE2 (fun h => ?_) (fun h=>⟨fun h2 => ?_,rfl,rfl,rfl,rfl,.refl _⟩)))
     ·have h:(j:Int)<((q.cls.map clV).length:Int):=of_decide_eq_true h
      rw [List.length_map] at h
      have hj2:j<q.cls.length:=by omega
      have hsm:=hp.cl q hqm _ (List.getElem_mem hj2)
      have hst:=zWH (P:=fun c=>zW5 tab q.arity c) hj2
      rw [hall,Bool.true_and] at hst
      refine ⟨⟨by omega,by rw [List.length_map]; exact h⟩,q.cls[j],?_,_,_,rfl,hsm,zE2 (fun h1=>⟨bad hj2 ?_,rfl,trivial⟩) (fun h1=>⟨p,_,rfl,⟨hlen,?_⟩,zE2 (fun h2=>⟨bad hj2 ?_,rfl,trivial⟩) (fun h2=>⟨j+1,⟨⟨hj2,hip,hq,?_⟩,?_⟩,rfl,rfl,rfl,rfl,?_,rfl,rfl,zSM⟩)⟩)⟩
      ·show AV.vptr (AV.cells (List.getD (q.cls.map clV) (Int.toNat (j:Int)) AV.undef))=_
       rw [Int.toNat_natCast]; exact zWG hj2
      ·unfold zW5
       rw [show zSC q.cls[j] q.arity=false by simpa using h1]; rfl
      ·have:=hsm.small.2.2; omega
      ·unfold zW5
       rw [Bool.not_eq_true',<-htab] at h2
       rw [h2,Bool.and_false]
      ·show ((q.cls.take (j+1)).all fun c=>zW5 tab q.arity c)=true
       rw [hst]
       unfold zW5
       rw [Bool.not_eq_false'] at h1 h2
       rw [<-htab] at h2
       rw [h1,h2]; rfl
      ·show q.cls.length - (j+1)<q.cls.length - j
       omega
      ·exact congrArg (fun z=>TV.v (iZ z)) (by rw [show ((j:Int)+1)=((j+1:Nat):Int) by omega,zN8 (by omega) (by omega)])
     ·have h:¬ (j:Int)<((q.cls.map clV).length:Int):=of_decide_eq_false h
      rw [List.length_map] at h
      have h2:j<q.cls.length:=h2
      omega
    ·obtain ⟨q,ip⟩:=g
     obtain ⟨hj,hip,hq,hall⟩:=hI
     change j<=q.cls.length at hj
     change ((q.cls.take j).all fun c=>zW5 tab q.arity c)=true at hall
     cases e with
     | exit n =>
      match n,kk with
      | 2,kk =>
       obtain ⟨hk,hat⟩:=kk
       have hk:¬ j<q.cls.length:=hk
       rw [show j=q.cls.length by omega,List.take_length] at hall
       exact ⟨_,_,(zJM hat).1,(zJM hat).2,hk1 hall⟩
     | ret=>exact ⟨_,σ,(zJM kk.2).1,.refl _,hk2 kk.1 σ⟩
     | normal=>exact absurd rfl hne
     | _=>exact kk.elim
   ·have h:=of_decide_eq_true h
    rw [List.length_map] at h
    have hi2:i<p.length:=by omega
    have hst:=zWD hi2 ht hl
    have hm:=List.getElem_mem hi2
    have no:(!zR9 ((p.take i).map Pr.sym) p[i].name p[i].arity&&okP p[i])=false->No:=fun h=>noT (zWC (i:=i+1) (by rw [hst]; exact h))
    unfold okP at no hst
    rw [zO9] at no hst
    have hin:zR9 (p.map Pr.sym) p[i].name p[i].arity=true:=zVG (s:=p[i].sym) |>.2 (List.mem_map.2 ⟨p[i],hm,rfl⟩)
    refine ⟨⟨by omega,by rw [List.length_map]; omega⟩,p[i],by rw [Int.toNat_natCast]; exact zWF hi2,_,rfl,hp.name _ hm,zE2 (fun h1=>⟨no ?_,rfl,trivial⟩) (fun h1=>zE2 (fun h2=>⟨no ?_,rfl,trivial⟩) (fun h2=>zE2 (fun h3=>⟨no ?_,rfl,trivial⟩) (fun h3=>⟨p,_,_,rfl,hlen,fun h4 => ?_,fun j hj=>zE2 (fun h4=>⟨no ?_,rfl,trivial⟩) (fun h4=>⟨_,_,rfl,zE2 (fun h5=>⟨no ?_,rfl,trivial⟩) (fun h5=>zE2 (fun h6=>⟨no ?_,rfl,trivial⟩) (fun h6 =>
     ⟨⟨p[i],i⟩,⟨Nat.zero_le _,hi2,List.getElem?_eq_getElem hi2,rfl⟩,⟨rfl,rfl,rfl,rfl,rfl,rfl,rfl,zSM⟩,fun hR=>⟨i+1,⟨⟨hl,hi2,?_,?_⟩,?_⟩,rfl,rfl,?_,rfl,.refl _⟩,fun hN σ'=>⟨hN,rfl,trivial⟩⟩))⟩)⟩)))⟩
    ·rw [show zNS p[i].name=false by simpa using h1]; simp
    ·rw [decide_eq_false (show ¬ 0<=p[i].arity by have:=of_decide_eq_true h2; omega)]; simp
    ·rw [decide_eq_false (show ¬ p[i].arity<=16 by have:=of_decide_eq_true h3; omega)]; simp
    ·rw [hin] at h4; cases h4
    ·have hne:j≠i:=by
      rw [bne_iff_ne] at h4
      exact fun e=>h4 (by rw [e])
     have hlt:j<i:=by
      rcases Nat.lt_or_ge j i with h | h
      ·exact h
      ·have hlt:i<j:=by omega
       have hm2:p[i].sym∈(p.take j).map Pr.sym:=List.mem_map.2 ⟨p[i],List.mem_of_getElem? (i:=i) (by rw [List.getElem?_take_of_lt hlt]; exact List.getElem?_eq_getElem hi2),rfl⟩
       have:=zVG (s:=p[i].sym) |>.2 hm2
       rw [show zR9 ((p.take j).map Pr.sym) p[i].sym.1 p[i].sym.2=false from hj.none] at this
       cases this
     obtain ⟨q,hq,hq1,hq2⟩:=hj.at_
     have hm2:q.sym∈(p.take i).map Pr.sym:=List.mem_map.2 ⟨q,List.mem_of_getElem? (i:=j) (by rw [List.getElem?_take_of_lt hlt]; exact hq),rfl⟩
     have:=zVG (s:=q.sym) |>.2 hm2
     rw [show q.sym.1=p[i].name from hq1,show q.sym.2=p[i].arity from hq2] at this
     rw [this]; rfl
    ·rw [zVR] at h5
     rw [h5]; simp
    ·rw [List.length_map] at h6
     rw [decide_eq_false (show ¬ p[i].cls.length<=32 by have:=of_decide_eq_true h6; omega)]; simp
    ·have h4:j=i:=by
      rw [bne_eq_false_iff_eq] at h4
      have h4:(j:Int)=(i:Int):=h4
      omega
     subst h4
     have h1:zNS p[j].name=true:=by simpa using h1
     have h2:=of_decide_eq_false h2
     have h3:=of_decide_eq_false h3
     rw [zVR] at h5
     rw [List.length_map] at h6
     have h6:=of_decide_eq_false h6
     rw [hst,hj.none,h1,h5,decide_eq_true (show 0<=p[j].arity by omega),decide_eq_true (show p[j].arity<=16 by omega),decide_eq_true (show p[j].cls.length<=32 by omega)]; rfl
    ·rw [zYH hi2,hg,Bool.true_and]; exact hR
    ·show p.length - (i+1)<p.length - i
     omega
    ·exact congrArg (fun z=>TV.v (iZ z)) (by rw [show ((i:Int)+1)=((i+1:Nat):Int) by omega,zN8 (by omega) (by omega)])
   ·have h:=of_decide_eq_false h
    rw [List.length_map] at h
    have h2:i<p.length:=h2
    omega
  ·obtain ⟨hl,hi,ht,hg⟩:I i:=hI
   cases e with
   | exit n =>
    match n,kk with
    | 0,kk =>
     obtain ⟨hk,hat⟩:=kk
     have hk:¬ i<p.length:=hk
     rw [show i=p.length by omega,List.take_length] at hg ht
     exact ⟨_,σ,(zJM hat).1,.refl _,hR1 (by show (zSE p&&zW6 tab p)=true; rw [ht,hg]; rfl) σ⟩
   | ret=>exact ⟨_,σ,(zJM kk.2).1,.refl _,hR2 kk.1 σ⟩
   | normal=>exact absurd rfl hne
   | _=>exact kk.elim
 ·rw [List.length_map] at h
  have h:=of_decide_eq_true h
  rw [tabS_max (by omega),Bool.false_and] at hQ
  exact hQ _
 ·rw [List.length_map] at h
  have h:=of_decide_eq_false h
  omega
 ·rw [show (zSE p&&zW6 tab p)=true from h] at hQ; exact hQ _
 ·rw [show (zSE p&&zW6 tab p)=false from h] at hQ; exact hQ _
theorem c122_ok:zJD (EV B w0 G) 122 C122:=by
 rintro args σ Q ⟨p,rfl,hp,hQ⟩
 refine zN1 hG (fun x hx => ?_) (.bool _) (fun Q hQ => ?_) hQ
 ·simp only [List.mem_cons,List.not_mem_nil,or_false] at hx
  subst hx; exact zWN p
 exact zKF (cuts:=[]) (zKM B w0 G) (zJJ (zKM B w0 G) (zJI (c138_ok hG) zJH)) (fun lp hl _ Q a' σ' kk=>kk.elim) ((vc122 B w0 G p Q).mpr ⟨p,rfl,hp,hQ _⟩)
theorem c80_ok:zJD (EV B w0 G) 80 C80:=by
 rintro args σ Q ⟨p,q,rfl,⟨hp,hq,hbk⟩,hQ⟩
 have hlen:=hp.len
 refine zN1 hG (fun x hx => ?_) (.int _ _) (fun Q hQ => ?_) hQ
 ·simp only [List.mem_cons,List.not_mem_nil,or_false] at hx
  rcases hx with rfl | rfl
  ·exact zWN p
  ·exact zWO q
 rw [zWK] at hQ
 refine zKF (cuts:=[]) (zKM B w0 G) (zJJ (zKM B w0 G) (zJI (c122_ok hG) (zJI (c123_ok hG) (zJI (zXH hG) zJH)))) (fun lp hl _ Q a' σ' kk=>kk.elim) ((vc80 B w0 G p q Q).mpr ⟨p,rfl,hp,q,rfl,⟨hq,hbk⟩,zE2 (fun h => ?_) (fun h1=>zE2 (fun h => ?_) (fun h2=>⟨p,q.goals,rfl,⟨hlen,by omega⟩,zE2 (fun h => ?_) (fun h3 => ?_)⟩))⟩)
 ·rw [Bool.not_eq_true'] at h
  rw [h,Bool.false_and] at hQ; exact hQ _
 ·rw [Bool.not_eq_true'] at h
  rw [h,Bool.false_and,Bool.and_false] at hQ; exact hQ _
 ·rw [Bool.not_eq_true'] at h
  rw [h,Bool.and_false,Bool.and_false] at hQ; exact hQ _
 ·rw [Bool.not_eq_false'] at h1 h2 h3
  rw [h1,h2,h3] at hQ; exact hQ _
end
end Go.V
namespace Go.V
open Go Go.Proofs
variable (B:Nat) (w0:World) (G:Nat->AV)
def C82:zJC:=fun args σ K=>∃ l:List T,args=[slV l,slV l]/\((l.length<=1000000/\∀ x∈l,x.small)/\K (.bool true) σ.untok)
theorem zYI:zKE Tryz.prog [] 82=[.loop (lB 82 0)]:=by kernel_rfl
theorem zYJ:zKE Tryz.prog [] 70=[.loop (lB 70 0)]:=by kernel_rfl
theorem zYK:zKE Tryz.prog [] 26=[.loop (lB 26 0)]:=by kernel_rfl
def ls82 (l:List T):LS Nat where
 F i:=[(0,.v (slV l)),(1,.v (slV l)),(5,.v (iZ (i:Int)))]
 FL _:=[]
 S _:=zJZ
 I i:=i<=l.length
 μ i:=l.length - i
 Ex i e a σ:=match e with
  | .exit 0=>atF a [] [] True
  | _=>False
theorem vc82l (N:Nat) (l:List T) (i:Nat):(wpX [] (EV B w0 G) (hnd (EV B w0 G) zHI zMU [(33,C33 N)]) nL (zHI 82) (hAt [(6,2,hT),(6,6,hT)]) (lB 82 0) ((ls82 l).post i) (frm ((ls82 l).F i) []) zJZ) =
 (bcase (decide ((i:Int)<(List.length (tcellL l):Int)))
 (((0:Int)<=(i:Int)/\(i:Int)<(List.length (tcellL l):Int))/\∃ x0:T,AV.vptr (AV.cells (List.getD (tcellL l) (Int.toNat (↑i:Int)) AV.undef))=AV.vptr (tc x0)/\((0:Int)<=(i:Int)/\(i:Int)<(List.length (tcellL l):Int))/\∃ x1:T,AV.vptr (AV.cells (List.getD (tcellL l) (Int.toNat (↑i:Int)) AV.undef))=AV.vptr (tc x1)/\∃ a2:T,∃ b3:T,[AV.agg (tc x0),AV.agg (tc x1)]=[AV.agg (tc a2),AV.agg (tc b3)]/\(T.small a2/\SizeOf.sizeOf a2<N)/\bcase (!(same a2 b3))
 False
 (∃ x'4:Nat,(LS.I (ls82 l) x'4/\LS.μ (ls82 l) x'4<LS.μ (ls82 l) i)/\Rf (TV.v (sT l))/\Rf (TV.v (sT l))/\TV.v (iZ (IntKind.wrap .i64 ((i:Int)+1)))=TV.v (iZ (x'4:Int))/\zA6.Le ((ls82 l).3 x'4) (Ut zJZ)))
 True):=by kernel_rfl
def T82 (l:List T):zFV:=fun _ Q a σ=>atF a ((ls82 l).F 0) [] (zJZ.Le σ)/\∀ σ':zA6,Q (.exit 0) (frm [] []) σ'
theorem vc82 (l:List T) (Q:AV->zA6->Prop):(zKD [] (EV B w0 G) (H0 (EV B w0 G)) (T82 l) zHI zMV 82 [slV l,slV l] zJZ Q) =
 (bcase ((List.length (tcellL l):Int) != (List.length (tcellL l):Int))
 (Q (AV.bool false) zJZ)
 ((Rf (TV.v (sT l))/\Rf (TV.v (sT l))/\Rf (TV.v (iZ 0))/\zA6.Le zJZ zJZ)/\(∀ σ'0:zA6,Q (AV.bool true) σ'0))):=by kernel_rfl
structure FitC (c:Cl):Prop where
 len:zW1 c
 small:∀ x∈c.all,x.small
def C109:zJC:=fun args σ K=>∃ c:Cl,args=[clV c,clV c]/\(FitC c/\K (.bool true) σ.untok)
theorem vc109 (c:Cl) (Q:AV->zA6->Prop):(zKD [] (EV B w0 G) (hnd (EV B w0 G) zHI zMU [(82,C82)]) nL zHI zMV 109 [clV c,clV c] zJZ Q) =
 (bcase (((Cl.mark c):Int)==(Cl.mark c))
 (bcase (((Cl.vars c):Int)==(Cl.vars c))
 (∃ l0:List T,[sT (Cl.head c),sT (Cl.head c)]=[sT l0,sT l0]/\(List.length l0<=1000000/\(∀ x1:T,((x1∈l0)->(T.small x1))))/\∃ l1:List T,[sT (Cl.guard c),sT (Cl.guard c)]=[sT l1,sT l1]/\(List.length l1<=1000000/\(∀ x2:T,((x2∈l1)->(T.small x2))))/\∃ l2:List T,[sT (Cl.body c),sT (Cl.body c)]=[sT l2,sT l2]/\(List.length l2<=1000000/\(∀ x3:T,((x3∈l2)->(T.small x3))))/\Q (AV.bool true) (Ut (Ut (Ut zJZ))))
 (Q (AV.bool false) zJZ))
 (Q (AV.bool false) zJZ)):=by kernel_rfl
structure FitQ (q:Pr):Prop where
 len:q.cls.length<=1000000
 cl:∀ c∈q.cls,FitC c
def C70:zJC:=fun args σ K=>∃ q:Pr,args=[prV q,prV q]/\(FitQ q/\K (.bool true) σ.untok)
def zYL (q:Pr):List AV:=[.str q.name,iZ q.arity,.slice 5 (q.cls.map clV) .any]
def ls70 (q:Pr):LS Nat where
 F i:=[(2,.l 2 0),(3,.l 3 0),(5,.v (iZ (i:Int)))]
 FL _:=[(2,zYL q),(3,zYL q)]
 S _:=zJZ
 I i:=i<=q.cls.length
 μ i:=q.cls.length - i
 Ex i e a σ:=match e with
  | .exit 0=>atF a [] [] True
  | _=>False
theorem vc70l (q:Pr) (i:Nat):(wpX [] (EV B w0 G) (hnd (EV B w0 G) zHI zMU [(109,C109)]) nL (zHI 70) (hAt [(6,3,hCl),(6,8,hCl)]) (lB 70 0) ((ls70 q).post i) (frm ((ls70 q).F i) ((ls70 q).FL i)) zJZ) =
 (bcase (decide ((i:Int)<(List.length (List.map clV (Pr.cls q)):Int)))
 (((0:Int)<=(i:Int)/\(i:Int)<(List.length (List.map clV (Pr.cls q)):Int))/\∃ x0:Cl,AV.vptr (AV.cells (List.getD (List.map clV (Pr.cls q)) (Int.toNat (↑i:Int)) AV.undef))=AV.vptr [iZ (Cl.mark x0),iZ (Cl.vars x0),sT (Cl.head x0),sT (Cl.guard x0),sT (Cl.body x0)]/\((0:Int)<=(i:Int)/\(i:Int)<(List.length (List.map clV (Pr.cls q)):Int))/\∃ x1:Cl,AV.vptr (AV.cells (List.getD (List.map clV (Pr.cls q)) (Int.toNat (↑i:Int)) AV.undef))=AV.vptr [iZ (Cl.mark x1),iZ (Cl.vars x1),sT (Cl.head x1),sT (Cl.guard x1),sT (Cl.body x1)]/\∃ c2:Cl,[AV.agg [iZ (Cl.mark x0),iZ (Cl.vars x0),sT (Cl.head x0),sT (Cl.guard x0),sT (Cl.body x0)],AV.agg [iZ (Cl.mark x1),iZ (Cl.vars x1),sT (Cl.head x1),sT (Cl.guard x1),sT (Cl.body x1)]]=[AV.agg [iZ (Cl.mark c2),iZ (Cl.vars c2),sT (Cl.head c2),sT (Cl.guard c2),sT (Cl.body c2)],AV.agg [iZ (Cl.mark c2),iZ (Cl.vars c2),sT (Cl.head c2),sT (Cl.guard c2),sT (Cl.body c2)]]/\FitC c2/\∃ x'3:Nat,(LS.I (ls70 q) x'3/\LS.μ (ls70 q) x'3<LS.μ (ls70 q) i)/\Rf (TV.l 2 0)/\Rf (TV.l 3 0)/\TV.v (iZ (IntKind.wrap .i64 ((i:Int)+1)))=TV.v (iZ (x'3:Int))/\Rf [AV.str (Pr.name q),iZ (Pr.arity q),AV.slice 5 (List.map clV (Pr.cls q)) Cap.any]/\Rf [AV.str (Pr.name q),iZ (Pr.arity q),AV.slice 5 (List.map clV (Pr.cls q)) Cap.any]/\zA6.Le ((ls70 q).3 x'3) (Ut zJZ))
 True):=by kernel_rfl
def T70 (q:Pr):zFV:=fun _ Q a σ=>atF a ((ls70 q).F 0) ((ls70 q).FL 0) (zJZ.Le σ)/\∀ σ':zA6,Q (.exit 0) (frm [] []) σ'
theorem vc70 (q:Pr) (Q:AV->zA6->Prop):(zKD [] (EV B w0 G) (H0 (EV B w0 G)) (T70 q) zHI zMV 70 [prV q,prV q] zJZ Q) =
 (bcase (!(zAI (Pr.name q) (Pr.name q)))
 (Q (AV.bool false) zJZ)
 (bcase (((Pr.arity q):Int) != (Pr.arity q))
 (Q (AV.bool false) zJZ)
 (bcase ((List.length (List.map clV (Pr.cls q)):Int) != (List.length (List.map clV (Pr.cls q)):Int))
 (Q (AV.bool false) zJZ)
 ((Rf (TV.l 2 0)/\Rf (TV.l 3 0)/\Rf (TV.v (iZ 0))/\Rf [AV.str (Pr.name q),iZ (Pr.arity q),AV.slice 5 (List.map clV (Pr.cls q)) Cap.any]/\Rf [AV.str (Pr.name q),iZ (Pr.arity q),AV.slice 5 (List.map clV (Pr.cls q)) Cap.any]/\zA6.Le zJZ zJZ)/\(∀ σ'0:zA6,Q (AV.bool true) σ'0))))):=by kernel_rfl
structure FitP (p:List Pr):Prop where
 len:p.length<=1000000
 pr:∀ q∈p,FitQ q
def C26g:zJC:=fun args σ K=>∃ p:List Pr,args=[zSI p,zSI p]/\(FitP p/\K (.bool true) σ.untok)
def ls26 (p:List Pr):LS Nat where
 F i:=[(2,.l 2 0),(3,.l 3 0),(5,.v (iZ (i:Int)))]
 FL _:=[(2,[zW0 p]),(3,[zW0 p])]
 S _:=zJZ
 I i:=i<=p.length
 μ i:=p.length - i
 Ex i e a σ:=match e with
  | .exit 0=>atF a [] [] True
  | _=>False
theorem vc26l (p:List Pr) (i:Nat):(wpX [] (EV B w0 G) (hnd (EV B w0 G) zHI zMU [(70,C70)]) nL (zHI 26) (hAt [(6,3,hPr),(6,8,hPr)]) (lB 26 0) ((ls26 p).post i) (frm ((ls26 p).F i) ((ls26 p).FL i)) zJZ) =
 (bcase (decide ((i:Int)<(List.length (List.map prV p):Int)))
 (((0:Int)<=(i:Int)/\(i:Int)<(List.length (List.map prV p):Int))/\∃ x0:Pr,AV.vptr (AV.cells (List.getD (List.map prV p) (Int.toNat (↑i:Int)) AV.undef))=AV.vptr [AV.str (Pr.name x0),iZ (Pr.arity x0),AV.slice 5 (List.map clV (Pr.cls x0)) Cap.any]/\((0:Int)<=(i:Int)/\(i:Int)<(List.length (List.map prV p):Int))/\∃ x1:Pr,AV.vptr (AV.cells (List.getD (List.map prV p) (Int.toNat (↑i:Int)) AV.undef))=AV.vptr [AV.str (Pr.name x1),iZ (Pr.arity x1),AV.slice 5 (List.map clV (Pr.cls x1)) Cap.any]/\∃ q2:Pr,[AV.agg [AV.str (Pr.name x0),iZ (Pr.arity x0),AV.slice 5 (List.map clV (Pr.cls x0)) Cap.any],AV.agg [AV.str (Pr.name x1),iZ (Pr.arity x1),AV.slice 5 (List.map clV (Pr.cls x1)) Cap.any]]=[AV.agg [AV.str (Pr.name q2),iZ (Pr.arity q2),AV.slice 5 (List.map clV (Pr.cls q2)) Cap.any],AV.agg [AV.str (Pr.name q2),iZ (Pr.arity q2),AV.slice 5 (List.map clV (Pr.cls q2)) Cap.any]]/\FitQ q2/\∃ x'3:Nat,(LS.I (ls26 p) x'3/\LS.μ (ls26 p) x'3<LS.μ (ls26 p) i)/\Rf (TV.l 2 0)/\Rf (TV.l 3 0)/\TV.v (iZ (IntKind.wrap .i64 ((i:Int)+1)))=TV.v (iZ (x'3:Int))/\Rf [AV.slice 3 (List.map prV p) Cap.any]/\Rf [AV.slice 3 (List.map prV p) Cap.any]/\zA6.Le ((ls26 p).3 x'3) (Ut zJZ))
 True):=by kernel_rfl
def T26 (p:List Pr):zFV:=fun _ Q a σ=>atF a ((ls26 p).F 0) ((ls26 p).FL 0) (zJZ.Le σ)/\∀ σ':zA6,Q (.exit 0) (frm [] []) σ'
theorem vc26 (p:List Pr) (Q:AV->zA6->Prop):(zKD [] (EV B w0 G) (H0 (EV B w0 G)) (T26 p) zHI zMV 26 [zSI p,zSI p] zJZ Q) =
 (bcase ((List.length (List.map prV p):Int) != (List.length (List.map prV p):Int))
 (Q (AV.bool false) zJZ)
 ((Rf (TV.l 2 0)/\Rf (TV.l 3 0)/\Rf (TV.v (iZ 0))/\Rf [AV.slice 3 (List.map prV p) Cap.any]/\Rf [AV.slice 3 (List.map prV p) Cap.any]/\zA6.Le zJZ zJZ)/\(∀ σ'0:zA6,Q (AV.bool true) σ'0))):=by kernel_rfl
def C39:zJC:=fun args σ K=>∃ q:Qu,args=[quV q,quV q]/\((q.goals.length<=1000000/\∀ x∈q.goals,x.small)/\K (.bool true) σ.untok)
theorem vc39 (q:Qu) (Q:AV->zA6->Prop):(zKD [] (EV B w0 G) (hnd (EV B w0 G) zHI zMU [(82,C82)]) nL zHI zMV 39 [quV q,quV q] zJZ Q) =
 (bcase (((Qu.vars q):Int)==(Qu.vars q))
 (∃ l0:List T,[sT (Qu.goals q),sT (Qu.goals q)]=[sT l0,sT l0]/\(List.length l0<=1000000/\(∀ x1:T,((x1∈l0)->(T.small x1))))/\Q (AV.bool true) (Ut zJZ))
 (Q (AV.bool false) zJZ)):=by kernel_rfl
end Go.V
namespace Go.V
open Go Go.Proofs

section
variable {B:Nat} {w0:World} {G:Nat->AV}
variable (hG:∀ i,zJV (G i))
include hG
theorem c82_ok:zJD (EV B w0 G) 82 C82:=by
 rintro args σ Q ⟨l,rfl,⟨hlen,hsm⟩,hQ⟩
 refine zN1 hG (fun v hv => ?_) (.bool _) (fun Q hQ => ?_) hQ
 ·simp only [List.mem_cons,List.not_mem_nil,or_false] at hv
  rcases hv with rfl | rfl <;> exact zQI l
 have hH:zIP (EV B w0 G) (hnd (EV B w0 G) zHI zMU [(33,C33 (SizeOf.sizeOf l+1))]):=zJJ (zKM B w0 G) (zJI (c33_ok hG _) zJH)
 refine zKF (cuts:=[]) (zKM B w0 G) zMZ (fun lp hl _ Q a' σ kk => ?_) ((vc82 B w0 G l Q).mpr (zE2 (fun h=>by simp at h) (fun h=>⟨⟨rfl,rfl,rfl,.refl _⟩,hQ⟩)))
 change lp∈zKE Tryz.prog [] 82 at hl
 rw [zYI] at hl
 simp only [List.mem_cons,List.not_mem_nil,or_false] at hl
 subst hl
 obtain ⟨hat,hR⟩:=kk
 refine zK5 (ls82 l) (x0:=0) (fun i hI => ?_) (fun i hI e a' σ hne kk => ?_) (Nat.zero_le _) hat
 ·have hi:i<=l.length:=hI
  refine zP3 hH (zKM B w0 G) (by kernel_rfl) ((vc82l B w0 G _ l i).mpr (zE2 (fun h => ?_) (fun h=>trivial)))
  have h:=of_decide_eq_true h
  rw [zMH] at h
  have hi2:i<l.length:=by omega
  have hm:=List.getElem_mem hi2
  have hr:(0:Int)<=(i:Int)/\(i:Int)<((tcellL l).length:Int):=⟨by omega,by rw [zMH]; omega⟩
  have hg:AV.vptr (AV.cells (List.getD (tcellL l) (Int.toNat (i:Int)) AV.undef)) = .vptr (tc l[i]):=by rw [Int.toNat_natCast]; exact zNA hi2
  refine ⟨hr,l[i],hg,hr,l[i],hg,l[i],l[i],rfl,⟨hsm _ hm,by have:=List.sizeOf_lt_of_mem hm; omega⟩,zE2 (fun h2 => ?_) (fun h2=>⟨i+1,⟨hi2,?_⟩,rfl,rfl,?_,zSM⟩)⟩
  ·rw [zNQ.1] at h2; cases h2
  ·show l.length - (i+1)<l.length - i
   omega
  ·rw [show ((i:Int)+1)=((i+1:Nat):Int) by omega,zN8 (by omega) (by omega)]
 ·cases e with
  | exit j =>
   match j,kk with
   | 0,kk =>
    have kk:atF a' [] [] True:=kk
    exact ⟨_,σ,(zJM kk).1,.refl _,hR σ⟩
  | normal=>exact absurd rfl hne
  | _=>exact kk.elim
omit hG in
theorem zYM {c:Cl} {x:T}:x∈c.all↔x∈c.head\/x∈c.guard\/x∈c.body:=by
 unfold Cl.all; simp [or_assoc]
theorem c109_ok:zJD (EV B w0 G) 109 C109:=by
 rintro args σ Q ⟨c,rfl,⟨⟨h1,h2,h3⟩,hsm⟩,hQ⟩
 refine zN1 hG (fun v hv => ?_) (.bool _) (fun Q hQ => ?_) hQ
 ·simp only [List.mem_cons,List.not_mem_nil,or_false] at hv
  rcases hv with rfl | rfl <;> exact zUM c
 exact zKF (cuts:=[]) (zKM B w0 G) (zJJ (zKM B w0 G) (zJI (c82_ok hG) zJH)) (fun lp hl _ Q a' σ' kk=>kk.elim) ((vc109 B w0 G c Q).mpr (zE2 (fun _=>zE2 (fun _=>⟨c.head,rfl,⟨by omega,fun x hx=>hsm x (zYM.2 (.inl hx))⟩,c.guard,rfl,⟨by omega,fun x hx=>hsm x (zYM.2 (.inr (.inl hx)))⟩,c.body,rfl,⟨by omega,fun x hx=>hsm x (zYM.2 (.inr (.inr hx)))⟩,hQ _⟩) (fun h=>by simp at h)) (fun h=>by simp at h)))
omit hG in
theorem zYN (q:Pr):zJV (prV q):=.agg fun x hx=>by
 simp only [List.mem_cons,List.not_mem_nil,or_false] at hx
 rcases hx with rfl | rfl | rfl
 ·exact .str _
 ·exact .int _ _
 ·exact zWL q.cls
theorem c70_ok:zJD (EV B w0 G) 70 C70:=by
 rintro args σ Q ⟨q,rfl,⟨hlen,hfit⟩,hQ⟩
 refine zN1 hG (fun v hv => ?_) (.bool _) (fun Q hQ => ?_) hQ
 ·simp only [List.mem_cons,List.not_mem_nil,or_false] at hv
  rcases hv with rfl | rfl <;> exact zYN q
 have hH:zIP (EV B w0 G) (hnd (EV B w0 G) zHI zMU [(109,C109)]):=zJJ (zKM B w0 G) (zJI (c109_ok hG) zJH)
 refine zKF (cuts:=[]) (zKM B w0 G) zMZ (fun lp hl _ Q a' σ kk => ?_) ((vc70 B w0 G q Q).mpr (zE2 (fun h=>by rw [zRD.2 rfl] at h; cases h) (fun _=>zE2 (fun h=>by simp at h) (fun h=>zE2 (fun h=>by simp at h) (fun h=>⟨⟨rfl,rfl,rfl,rfl,rfl,.refl _⟩,hQ⟩)))))
 change lp∈zKE Tryz.prog [] 70 at hl
 rw [zYJ] at hl
 simp only [List.mem_cons,List.not_mem_nil,or_false] at hl
 subst hl
 obtain ⟨hat,hR⟩:=kk
 refine zK5 (ls70 q) (x0:=0) (fun i hI => ?_) (fun i hI e a' σ hne kk => ?_) (Nat.zero_le _) hat
 ·have hi:i<=q.cls.length:=hI
  refine zP3 hH (zKM B w0 G) (by kernel_rfl) ((vc70l B w0 G q i).mpr (zE2 (fun h => ?_) (fun h=>trivial)))
  have h:=of_decide_eq_true h
  rw [List.length_map] at h
  have hi2:i<q.cls.length:=by omega
  have hm:=List.getElem_mem hi2
  have hr:(0:Int)<=(i:Int)/\(i:Int)<((q.cls.map clV).length:Int):=⟨by omega,by rw [List.length_map]; omega⟩
  refine ⟨hr,q.cls[i],by rw [Int.toNat_natCast]; exact zWG hi2,hr,q.cls[i],by rw [Int.toNat_natCast]; exact zWG hi2,q.cls[i],rfl,hfit _ hm,i+1,⟨hi2,?_⟩,rfl,rfl,?_,rfl,rfl,zSM⟩
  ·show q.cls.length - (i+1)<q.cls.length - i
   omega
  ·rw [show ((i:Int)+1)=((i+1:Nat):Int) by omega,zN8 (by omega) (by omega)]
 ·cases e with
  | exit j =>
   match j,kk with
   | 0,kk =>
    have kk:atF a' [] [] True:=kk
    exact ⟨_,σ,(zJM kk).1,.refl _,hR σ⟩
  | normal=>exact absurd rfl hne
  | _=>exact kk.elim
theorem c26g_ok:zJD (EV B w0 G) 26 C26g:=by
 rintro args σ Q ⟨p,rfl,⟨hlen,hfit⟩,hQ⟩
 refine zN1 hG (fun v hv => ?_) (.bool _) (fun Q hQ => ?_) hQ
 ·simp only [List.mem_cons,List.not_mem_nil,or_false] at hv
  rcases hv with rfl | rfl <;> exact zWN p
 have hH:zIP (EV B w0 G) (hnd (EV B w0 G) zHI zMU [(70,C70)]):=zJJ (zKM B w0 G) (zJI (c70_ok hG) zJH)
 refine zKF (cuts:=[]) (zKM B w0 G) zMZ (fun lp hl _ Q a' σ kk => ?_) ((vc26 B w0 G p Q).mpr (zE2 (fun h=>by simp at h) (fun h=>⟨⟨rfl,rfl,rfl,rfl,rfl,.refl _⟩,hQ⟩)))
 change lp∈zKE Tryz.prog [] 26 at hl
 rw [zYK] at hl
 simp only [List.mem_cons,List.not_mem_nil,or_false] at hl
 subst hl
 obtain ⟨hat,hR⟩:=kk
 refine zK5 (ls26 p) (x0:=0) (fun i hI => ?_) (fun i hI e a' σ hne kk => ?_) (Nat.zero_le _) hat
 ·have hi:i<=p.length:=hI
  refine zP3 hH (zKM B w0 G) (by kernel_rfl) ((vc26l B w0 G p i).mpr (zE2 (fun h => ?_) (fun h=>trivial)))
  have h:=of_decide_eq_true h
  rw [List.length_map] at h
  have hi2:i<p.length:=by omega
  have hm:=List.getElem_mem hi2
  have hr:(0:Int)<=(i:Int)/\(i:Int)<((p.map prV).length:Int):=⟨by omega,by rw [List.length_map]; omega⟩
  refine ⟨hr,p[i],by rw [Int.toNat_natCast]; exact zWF hi2,hr,p[i],by rw [Int.toNat_natCast]; exact zWF hi2,p[i],rfl,hfit _ hm,i+1,⟨hi2,?_⟩,rfl,rfl,?_,rfl,rfl,zSM⟩
  ·show p.length - (i+1)<p.length - i
   omega
  ·rw [show ((i:Int)+1)=((i+1:Nat):Int) by omega,zN8 (by omega) (by omega)]
 ·cases e with
  | exit j =>
   match j,kk with
   | 0,kk =>
    have kk:atF a' [] [] True:=kk
    exact ⟨_,σ,(zJM kk).1,.refl _,hR σ⟩
  | normal=>exact absurd rfl hne
  | _=>exact kk.elim
theorem c39_ok:zJD (EV B w0 G) 39 C39:=by
 rintro args σ Q ⟨q,rfl,⟨hlen,hsm⟩,hQ⟩
 refine zN1 hG (fun v hv => ?_) (.bool _) (fun Q hQ => ?_) hQ
 ·simp only [List.mem_cons,List.not_mem_nil,or_false] at hv
  rcases hv with rfl | rfl <;> exact zWO q
 exact zKF (cuts:=[]) (zKM B w0 G) (zJJ (zKM B w0 G) (zJI (c82_ok hG) zJH)) (fun lp hl _ Q a' σ' kk=>kk.elim) ((vc39 B w0 G q Q).mpr (zE2 (fun _=>⟨q.goals,rfl,⟨hlen,hsm⟩,hQ _⟩) (fun h=>by simp at h)))
end
end Go.V
namespace Go.V
open Go Go.Proofs

def zipB (f:AV->AV->Bool):List AV->List AV->Bool
 | [],[]=>true
 | a :: xl,b :: yl=>f a b&&zipB f xl yl
 | _,_=>false
def wkS (f:AV->AV->Bool) (a b:AV):Bool:=match a,b with
 | .nilslice,.slice _ [] .any=>true
 | .slice sz xs _,.slice sz' ys .any=>Nat.beq sz sz'&&(Nat.beq xs.length ys.length&&(zipB f (zA0 xs) (zA0 ys)&&(ys.all (fun y=>Nat.beq y.cells.length sz)&&(zA0 ys).all AV.one)))
 | .agg xl,.agg yl=>zipB f xl yl
 | .tuple xl,.tuple yl=>zipB f xl yl
 | a,b=>AV.same a b
def wkB:Nat->AV->AV->Bool
 | 0,_,_=>false
 | n+1,a,b=>wkS (wkB n) a b
theorem zYO {f:AV->AV->Bool} (hf:∀ a b,f a b=true->Wk a b):∀ xl yl,zipB f xl yl=true->WkL xl yl
 | [],[],_ => .nil
 | a :: xl,b :: yl,h=>by
  rw [zipB,Bool.and_eq_true] at h
  exact .cons (hf _ _ h.1) (zYO hf xl yl h.2)
 | [],_ :: _,h=>by cases h
 | _ :: _,[],h=>by cases h
theorem wkS_ok {f:AV->AV->Bool} (hf:∀ a b,f a b=true->Wk a b) {a b:AV} (h:wkS f a b=true):Wk a b:=by
 unfold wkS at h
 split at h
 ·exact Wk.nil _
 ·rename_i sz xs m sz' ys
  rw [Bool.and_eq_true,Bool.and_eq_true,Bool.and_eq_true,Bool.and_eq_true] at h
  obtain ⟨h1,h2,h3,h4,h5⟩:=h
  have h1:=Nat.eq_of_beq_eq_true h1
  subst h1
  exact Wk.sliceL (Nat.eq_of_beq_eq_true h2) (zYO hf _ _ h3) (fun y hy=>Nat.eq_of_beq_eq_true (List.all_eq_true.1 h4 y hy)) h5
 ·exact Wk.agg (zYO hf _ _ h)
 ·exact Wk.tuple (zYO hf _ _ h)
 ·rw [AV.same_ok _ _ h]; exact .refl _
theorem zYP:∀ (n:Nat) {a b:AV},wkB n a b=true->Wk a b
 | 0,_,_,h=>by cases h
 | n+1,_,_,h=>wkS_ok (fun a b=>zYP n) h
def vN (n:Nat):T:=.mk 1 (n:Int) ⟨⟨[]⟩⟩ []
def funN (s:List UInt8) (l:List T):T:=.mk 5 0 ⟨⟨s⟩⟩ l
def zYQ:T:=.mk 3 0 ⟨⟨[91,93]⟩⟩ []
def eqN (t u:T):T:=funN [61] [t,u]
def zYR (t u:T):T:=funN [46] [t,u]
def zYS (l:List T):T:=funN [109,101,114,103,101] l
def zYT (vars:Nat) (head body:List T):Cl:=⟨0,(vars:Int),head,[],body⟩
def takeN (k i:Nat):Cl :=
 zYT (k+3) ((List.range k).map (fun j=>if j<i then vN j else if j=i then zYR (vN i) (vN (i+1)) else vN (j+1))++[vN (k+1)])
  [eqN (vN (k+1)) (zYR (vN i) (vN (k+2))),zYS ((List.range k).map (fun j=>if j<i then vN j else vN (j+1))++[vN (k+2)])]
def endN (k i:Nat):Cl :=
 zYT k ((List.range k).map (fun j=>if j<i then vN j else if j=i then zYQ else vN (j - 1))++[vN (k - 1)])
  [zYS ((List.range (k - 1)).map vN++[vN (k - 1)])]
def zYU (k:Nat):List Cl:=match k with
 | 0=>[zYT 1 [vN 0] [eqN (vN 0) zYQ]]
 | k+1=>(List.range (k+1)).map (takeN (k+1))++(List.range (k+1)).map (endN (k+1))
def zYV (n:Nat):List Pr:=(List.range (n+1)).map fun k=>⟨⟨⟨[109,101,114,103,101]⟩⟩,((k+1:Nat):Int),zYU k⟩
theorem zYW:wkB 40 (zQQ 0) (zSI (zYV 0))=true:=by kernel_rfl
theorem zYX:wkB 40 (zQQ 1) (zSI (zYV 1))=true:=by kernel_rfl
theorem zYY:wkB 40 (zQQ 2) (zSI (zYV 2))=true:=by kernel_rfl
theorem zYZ:wkB 40 (zQQ 3) (zSI (zYV 3))=true:=by kernel_rfl
theorem zZ0:wkB 40 (zQQ 4) (zSI (zYV 4))=true:=by kernel_rfl
theorem zZ1:wkB 40 (zQQ 5) (zSI (zYV 5))=true:=by kernel_rfl
theorem zZ2:wkB 40 (zQQ 6) (zSI (zYV 6))=true:=by kernel_rfl
theorem zZ3:wkB 40 (zQQ 7) (zSI (zYV 7))=true:=by kernel_rfl
theorem zZ4:wkB 40 (zQQ 8) (zSI (zYV 8))=true:=by kernel_rfl
theorem zZ5:∀ m,m<=8->Wk (zQQ m) (zSI (zYV m))
 | 0,_=>zYP _ zYW
 | 1,_=>zYP _ zYX
 | 2,_=>zYP _ zYY
 | 3,_=>zYP _ zYZ
 | 4,_=>zYP _ zZ0
 | 5,_=>zYP _ zZ1
 | 6,_=>zYP _ zZ2
 | 7,_=>zYP _ zZ3
 | 8,_=>zYP _ zZ4
 | m+9,h=>absurd h (by omega)
end Go.V
namespace Go.V
open Go Go.Proofs
variable (B:Nat) (w0:World) (G:Nat->AV)
def vZ (k:Int):T:=.mk 1 k ⟨⟨[]⟩⟩ []
def C78:zJC:=fun args σ K=>∃ k:Int,args=[iZ k]/\K (.agg (tc (vZ k))) σ.untok
theorem vc78 (k:Int) (Q:AV->zA6->Prop):(zKD [] (EV B w0 G) (H0 (EV B w0 G)) nL zHI zMV 78 [iZ k] zJZ Q) =
 (Q (AV.agg [iZ 1,iZ k,AV.str ⟨⟨[]⟩⟩,AV.nilslice]) zJZ):=by kernel_rfl
theorem vc120 (k:Int) (Q:AV->zA6->Prop):(zKD [] (EV B w0 G) (H0 (EV B w0 G)) nL zHI zMV 120 [iZ k] zJZ Q) =
 (Q (AV.agg [iZ 1,iZ k,AV.str ⟨⟨[]⟩⟩,AV.nilslice]) zJZ):=by kernel_rfl
theorem vc77 (s:ByteArray) (Q:AV->zA6->Prop):(zKD [] (EV B w0 G) (H0 (EV B w0 G)) nL zHI zMV 77 [.str s] zJZ Q) =
 (Q (AV.agg [iZ 3,iZ 0,AV.str s,AV.nilslice]) zJZ):=by kernel_rfl
theorem vc114 (a b:T) (Q:AV->zA6->Prop):(zKD [] (EV B w0 G) (H0 (EV B w0 G)) nL zHI zMV 114 [.agg (tc a),.agg (tc b)] zJZ Q) =
 (Q (AV.agg [iZ 5,iZ 0,AV.str ⟨⟨[46]⟩⟩,AV.slice 4 [AV.agg (tc a),AV.agg (tc b)] Cap.full]) zJZ):=by kernel_rfl
theorem vc115 (a b:T) (Q:AV->zA6->Prop):(zKD [] (EV B w0 G) (H0 (EV B w0 G)) nL zHI zMV 115 [.agg (tc a),.agg (tc b)] zJZ Q) =
 (Q (AV.agg [iZ 5,iZ 0,AV.str ⟨⟨[61]⟩⟩,AV.slice 4 [AV.agg (tc a),AV.agg (tc b)] Cap.full]) zJZ):=by kernel_rfl
theorem vc79 (l:List T) (Q:AV->zA6->Prop):(zKD [] (EV B w0 G) (H0 (EV B w0 G)) nL zHI zMV 79 [slV l] zJZ Q) =
 (Q (AV.agg [iZ 5,iZ 0,AV.str ⟨⟨[109,101,114,103,101]⟩⟩,sT l]) zJZ):=by kernel_rfl
theorem vc119 (l:List T) (Q:AV->zA6->Prop):(zKD [] (EV B w0 G) (H0 (EV B w0 G)) nL zHI zMV 119 [slV l] zJZ Q) =
 (Q (AV.agg [iZ 5,iZ 0,AV.str ⟨⟨[109,101,114,103,101]⟩⟩,sT l]) zJZ):=by kernel_rfl
theorem vc118 (Q:AV->zA6->Prop):(zKD [] (EV B w0 G) (H0 (EV B w0 G)) nL zHI zMV 118 [] zJZ Q) =
 (Q (AV.agg [iZ 3,iZ 0,AV.str ⟨⟨[91,93]⟩⟩,AV.nilslice]) zJZ):=by kernel_rfl
end Go.V
