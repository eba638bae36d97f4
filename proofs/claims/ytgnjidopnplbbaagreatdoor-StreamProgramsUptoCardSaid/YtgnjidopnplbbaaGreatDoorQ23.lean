/- A part of the proof of the statement S8 (texts brought together and shortened by a program of this work). -/
import Derived.Test.YtgnjidopnplbbaaGreatDoorQ22
import Derived.Test.YtgnjidopnplbbaaGreatDoorQ20
set_option maxRecDepth 1000000
set_option linter.unusedVariables false
namespace Go.V
open Go Go.Proofs
variable (B:Nat) (w0:World) (G:Nat->AV)
def H64 (E:Env) (N:Nat):zDY:=hnd E zHI zMU [(32,C32),(128,C128 N)]
structure Y64 where
 σ:zA6
 i:Nat
def ls64 (l:List T) (I:Y64->Prop):LS Y64 where
 F y:=[(0,.v (slV l)),(3,.v (iZ (y.i:Int)))]
 FL _:=[]
 S y:=y.σ
 I:=I
 μ y:=l.length - y.i
 Ex y e a σ:=match e with
  | .exit 0=>¬ (y.i<l.length)/\atF a [] [] (y.σ.Le σ)
  | .ret=>(∃ x∈l,grT x=false)/\atF a [(2,.v (.bool false))] [] True
  | _=>False
def N64:zIE:=hAt [(4,2,hT),(4,9,hT),(4,12,zP6)]
theorem zR0:zKE Tryz.prog [] 64=[.loop (lB 64 0)]:=by kernel_rfl
theorem vc64l (N:Nat) (l:List T) (I:Y64->Prop) (y:Y64):(wpX [] (EV B w0 G) (H64 (EV B w0 G) N) nL (zHI 64) N64 (lB 64 0) ((ls64 l I).post y) (frm [(0,.v (slV l)),(3,.v (iZ (y.i:Int)))] []) y.σ) =
 (bcase (decide ((Y64.i y:Int)<(List.length (tcellL l):Int)))
 (((0:Int)<=(Y64.i y:Int)/\(Y64.i y:Int)<(List.length (tcellL l):Int))/\∃ x0:T,AV.vptr (AV.cells (List.getD (tcellL l) (Int.toNat (↑(Y64.i y):Int)) AV.undef))=AV.vptr (tc x0)/\∃ t1:T,[AV.agg (tc x0)]=[AV.agg (tc t1)]/\T.bulk t1<=1099511627776/\bcase (((zND t1):Int) != 0)
 ((∃ x2:T,x2∈l/\grT x2=false)/\Rf (TV.v (AV.bool false))/\True)
 (((0:Int)<=(Y64.i y:Int)/\(Y64.i y:Int)<(List.length (tcellL l):Int))/\∃ x2:T,AV.vptr (AV.cells (List.getD (tcellL l) (Int.toNat (↑(Y64.i y):Int)) AV.undef))=AV.vptr (tc x2)/\∃ t3:T,∃ v4:AV,∃ acc5:List T,[AV.agg (tc x2),AV.nilslice]=[AV.agg (tc t3),v4]/\(SizeOf.sizeOf t3<N/\(((List.length acc5)+(List.length (zPE t3))):Nat)<=100000/\((v4=AV.nilslice/\(∀ x6:T,((x6∈acc5)->(((T.k x6):Int)≠1))))\/∃ id6:Nat,∃ n7:Nat,∃ l8:List Int,∃ g9:Bool,v4=AV.rslice id6 0 n7/\(0:Nat)<n7/\n7<=List.length acc5/\List.length l8=n7/\zA6.objs (Ut y.1) id6=zA5.cells (zP9 l8) 3 1 g9/\∃ x10:T,x10∈acc5/\((T.k x10):Int)=1))/\(∀ v'6:AV,(∀ σ'7:zA6,(((v'6=AV.nilslice/\(∀ x8:T,((x8∈acc5++zPE t3)->(((T.k x8):Int)≠1))))\/∃ id8:Nat,∃ n9:Nat,∃ l10:List Int,∃ g11:Bool,v'6=AV.rslice id8 0 n9/\(0:Nat)<n9/\n9<=List.length (acc5++(zPE t3))/\List.length l10=n9/\zA6.objs σ'7 id8=zA5.cells (zP9 l10) 3 1 g11/\∃ x12:T,x12∈acc5++zPE t3/\((T.k x12):Int)=1)->((v'6=AV.nilslice/\∃ x'8:Y64,(I x'8/\LS.μ (ls64 l I) x'8<LS.μ (ls64 l I) y)/\Rf (TV.v (sT l))/\TV.v (iZ (IntKind.wrap .i64 ((Y64.i y:Int)+1)))=TV.v (iZ (Y64.i x'8:Int))/\zA6.Le ((ls64 l I).3 x'8) σ'7)\/∃ x8:RS,v'6=AV.rslice (RS.id x8) 0 (RS.n x8)/\bcase (decide ((RS.n x8:Int) > 0))
 ((∃ x9:T,x9∈l/\grT x9=false)/\Rf (TV.v (AV.bool false))/\True)
 (∃ x'9:Y64,(I x'9/\LS.μ (ls64 l I) x'9<LS.μ (ls64 l I) y)/\Rf (TV.v (sT l))/\TV.v (iZ (IntKind.wrap .i64 ((Y64.i y:Int)+1)))=TV.v (iZ (Y64.i x'9:Int))/\zA6.Le ((ls64 l I).3 x'9) σ'7)))))))
 (((Y64.i y<List.length l)->False)/\zA6.Le y.1 y.1)):=by kernel_rfl
def T64 (l:List T) (I:Y64->Prop):zFV:=fun _ Q a σ=>∃ y:Y64,I y/\atF a ((ls64 l I).F y) [] (y.σ.Le σ)/\(((∀ x∈l,grT x=true)->∀ σ',Q (.exit 0) (frm [] []) σ')/\((∃ x∈l,grT x=false)->∀ σ',Q .ret (frm [(2,.v (.bool false))] []) σ'))
theorem vc64 (N:Nat) (l:List T) (I:Y64->Prop) (Q:AV->zA6->Prop):(zKD [] (EV B w0 G) (H64 (EV B w0 G) N) (T64 l I) zHI N64 64 [slV l] zJZ Q) =
 (∃ y0:Y64,I y0/\(Rf (TV.v (sT l))/\TV.v (iZ 0)=TV.v (iZ (Y64.i y0:Int))/\zA6.Le y0.1 zJZ)/\((∀ x1:T,((x1∈l)->(grT x1=true)))->(∀ σ'1:zA6,Q (AV.bool true) σ'1))/\((∃ x1:T,x1∈l/\grT x1=false)->(∀ σ'1:zA6,Q (AV.bool false) σ'1))):=by kernel_rfl
def C64:zJC:=fun args σ K=>∃ l:List T,args=[slV l]/\(l.length<=1000000/\∀ x∈l,x.bulk<=1099511627776)/\K (.bool (l.all grT)) σ.untok
def H63 (E:Env):zDY:=hnd E zHI zMU [(64,C64)]
def ls63 (ls:List (List T)):LS Nat where
 F i:=[(0,.v (.slice 1 (lsV ls) .any)),(3,.v (iZ (i:Int)))]
 FL _:=[]
 S _:=zJZ
 I i:=i<=ls.length/\∀ l∈ls.take i,l.all grT=true
 μ i:=ls.length - i
 Ex i e a σ:=match e with
  | .exit 0=>¬ (i<ls.length)/\atF a [] [] True
  | .ret=>(∃ l∈ls,l.all grT=false)/\atF a [(2,.v (iZ 3))] [] True
  | _=>False
def N63:zIE:=hAt [(6,2,hSl)]
theorem zR1:zKE Tryz.prog [] 63=[.loop (lB 63 0)]:=by kernel_rfl
theorem vc63l (ls:List (List T)) (i:Nat):(wpX [] (EV B w0 G) (H63 (EV B w0 G)) nL (zHI 63) N63 (lB 63 0) ((ls63 ls).post i) (frm [(0,.v (.slice 1 (lsV ls) .any)),(3,.v (iZ (i:Int)))] []) zJZ) =
 (bcase (decide ((i:Int)<(List.length (lsV ls):Int)))
 (((0:Int)<=(i:Int)/\(i:Int)<(List.length (lsV ls):Int))/\∃ x0:List T,AV.vptr (AV.cells (List.getD (lsV ls) (Int.toNat (↑i:Int)) AV.undef))=AV.vptr [sT x0]/\∃ l1:List T,[sT x0]=[sT l1]/\(List.length l1<=1000000/\(∀ x2:T,((x2∈l1)->(T.bulk x2<=1099511627776))))/\bcase (!(List.all l1 grT))
 ((∃ l2:List T,l2∈ls/\List.all l2 grT=false)/\Rf (TV.v (iZ 3))/\True)
 (∃ x'2:Nat,((x'2<=List.length ls/\(∀ l3:List T,((l3∈List.take x'2 ls)->(List.all l3 grT=true))))/\LS.μ (ls63 ls) x'2<LS.μ (ls63 ls) i)/\Rf (TV.v (AV.slice 1 (lsV ls) Cap.any))/\TV.v (iZ (IntKind.wrap .i64 ((i:Int)+1)))=TV.v (iZ (x'2:Int))/\zA6.Le ((ls63 ls).3 x'2) (Ut zJZ)))
 (((i<List.length ls)->False)/\True)):=by kernel_rfl
def T63 (ls:List (List T)):zFV:=fun _ Q a σ=>atF a ((ls63 ls).F 0) [] (zJZ.Le σ)/\(((∀ l∈ls,l.all grT=true)->∀ σ',Q (.exit 0) (frm [] []) σ')/\((∃ l∈ls,l.all grT=false)->∀ σ',Q .ret (frm [(2,.v (iZ 3))] []) σ'))
theorem vc63 (ls:List (List T)) (Q:AV->zA6->Prop):(zKD [] (EV B w0 G) (H63 (EV B w0 G)) (T63 ls) zHI N63 63 [.slice 1 (lsV ls) .any] zJZ Q) =
 (bcase (decide ((List.length (lsV ls):Int) > 8))
 (Q (iZ 1) zJZ)
 ((Rf (TV.v (AV.slice 1 (lsV ls) Cap.any))/\Rf (TV.v (iZ 0))/\zA6.Le zJZ zJZ)/\((∀ l0:List T,((l0∈ls)->(List.all l0 grT=true)))->(∀ σ'0:zA6,Q (iZ 0) σ'0))/\((∃ l0:List T,l0∈ls/\List.all l0 grT=false)->(∀ σ'0:zA6,Q (iZ 3) σ'0)))):=by kernel_rfl
def zR2 (ls:List (List T)):Int:=if 8<ls.length then 1 else if ls.all (fun l=>l.all grT)=true then 0 else 3
def C63:zJC:=fun args σ K=>∃ ls:List (List T),args=[.slice 1 (lsV ls) .any]/\(ls.length<=1000/\∀ l∈ls,l.length<=1000000/\∀ x∈l,x.bulk<=1099511627776)/\K (iZ (zR2 ls)) σ.untok
end Go.V
set_option linter.unusedSimpArgs false
set_option linter.unusedSectionVars false
namespace Go.V
open Go Go.Proofs

theorem grT_of {x:T} (h:zND x=0) (hv:∀ y∈zPE x,y.k≠1):grT x=true:=by
 unfold grT
 rw [h]
 simp only [decide_true,Bool.true_and,List.all_eq_true,decide_eq_true_eq]
 exact hv
theorem grT_not {x:T} (hv:∃ y∈zPE x,y.k=1):grT x=false:=by
 cases hgt:grT x with
 | false=>rfl
 | true =>
  unfold grT at hgt
  simp only [Bool.and_eq_true,List.all_eq_true,decide_eq_true_eq] at hgt
  obtain ⟨y,hy,hy1⟩:=hv
  exact absurd hy1 (hgt.2 y hy)

section
variable {B:Nat} {w0:World} {G:Nat->AV}
variable (hG:∀ i,zJV (G i))
include hG

theorem c64_ok:zJD (EV B w0 G) 64 C64:=by
 rintro args σ Q ⟨l,rfl,⟨hlen,hbk⟩,hQ⟩
 refine zN1 hG (fun y hy => ?_) (.bool _) (fun Q hQ => ?_) hQ
 ·simp only [List.mem_cons,List.not_mem_nil,or_false] at hy
  subst hy; exact zQI l
 have hH:zIP (EV B w0 G) (H64 (EV B w0 G) (SizeOf.sizeOf l+1)):=zJJ (zKM B w0 G) (zJI (c32_ok hG) (zJI (zQZ _) zJH))
 let I:Y64->Prop:=fun y=>y.i<=l.length/\∀ x∈l.take y.i,grT x=true
 refine zKF (cuts:=[]) (zKM B w0 G) hH (fun lp hl _ Q a' σ kk => ?_) ((vc64 B w0 G (SizeOf.sizeOf l+1) l I Q).mpr ⟨⟨zJZ,0⟩,⟨Nat.zero_le _,fun x hx=>by simp at hx⟩,⟨rfl,rfl,.refl _⟩,fun h σ' => ?_,fun h σ' => ?_⟩)
 ·change lp∈zKE Tryz.prog [] 64 at hl
  rw [zR0] at hl
  simp only [List.mem_cons,List.not_mem_nil,or_false] at hl
  subst hl
  obtain ⟨y0,hI0,hat,hR1,hR2⟩:=kk
  refine zK5 (ls64 l I) (x0:=y0) (fun y hI => ?_) (fun y hI e a' σ hne kk => ?_) hI0 hat
  ·obtain ⟨hi,hg⟩:I y:=hI
   show AWp _ _ _ _ _ (frm [(0,.v (slV l)),(3,.v (iZ (y.i:Int)))] []) y.σ
   refine zP3 hH (zKM B w0 G) (by kernel_rfl) ((vc64l B w0 G (SizeOf.sizeOf l+1) l I y).mpr (zE2 (fun h => ?_) (fun h=>⟨fun h2 => ?_,.refl _⟩)))
   ·have h:=of_decide_eq_true h
    have hk:y.i<l.length:=by rw [zMH] at h; omega
    have w1:IntKind.wrap .i64 ((y.i:Int)+1)=((y.i+1:Nat):Int):=by rw [zN8 (by omega) (by omega)]; omega
    have hm:=List.getElem_mem hk
    have hcell:=zNA hk
    have hsz:=List.sizeOf_lt_of_mem hm
    have nx:grT l[y.i]=true->∀ σ':zA6,I ⟨σ',y.i+1⟩:=fun hgr σ'=>⟨hk,fun x hx=>by
     have hx:x∈l.take (y.i+1):=hx
     rw [List.take_succ_eq_append_getElem hk] at hx
     rcases List.mem_append.1 hx with hx | hx
     ·exact hg x hx
     ·obtain rfl:x=l[y.i]:=by simpa using hx
      exact hgr⟩
    have hμ:l.length - (y.i+1)<l.length - y.i:=by omega
    refine ⟨⟨by omega,h⟩,l[y.i],by rw [Int.toNat_natCast]; exact hcell,l[y.i],rfl,hbk _ hm,zE2 (fun hc=>⟨⟨_,hm,zQN (by simpa using hc)⟩,rfl,trivial⟩) (fun hc => ?_)⟩
    have hc:zND l[y.i]=0:=by simpa using hc
    have hs:=zQA hc
    refine ⟨⟨by omega,h⟩,l[y.i],by rw [Int.toNat_natCast]; exact hcell,l[y.i],.nilslice,[],rfl,⟨by omega,by rw [zQ9]; simp; omega,.inl ⟨rfl,fun x hx=>by cases hx⟩⟩,fun v' σ' hO => ?_⟩
    rcases hO with ⟨rfl,hv⟩ | ⟨id,n,il,g,rfl,h1,h2,h3,h4,hx⟩
    ·exact .inl ⟨rfl,⟨σ',y.i+1⟩,⟨nx (grT_of hc (by simpa using hv)) σ',hμ⟩,rfl,by rw [w1],.refl _⟩
    ·refine .inr ⟨⟨id,n⟩,rfl,zE2 (fun _=>⟨⟨_,hm,grT_not (by simpa using hx)⟩,rfl,trivial⟩) (fun hn => ?_)⟩
     have hn:=of_decide_eq_false hn
     exact absurd (show (n:Int) > 0 by omega) hn
   ·have h:=of_decide_eq_false h
    rw [zMH] at h; omega
  ·obtain ⟨hi,hg⟩:I y:=hI
   cases e with
   | exit j =>
    match j,kk with
    | 0,kk =>
     have hk:¬ y.i<l.length:=kk.1
     rw [show y.i=l.length by omega,List.take_length] at hg
     exact ⟨_,σ,(zJM kk.2).1,.refl _,hR1 hg σ⟩
   | ret=>exact ⟨_,σ,(zJM kk.2).1,.refl _,hR2 kk.1 σ⟩
   | normal=>exact absurd rfl hne
   | _=>exact kk.elim
 ·rw [List.all_eq_true.2 h] at hQ; exact hQ σ'
 ·obtain ⟨x,hx,hx1⟩:=h
  have e:l.all grT=false:=by
   cases e:l.all grT with
   | false=>rfl
   | true=>rw [List.all_eq_true.1 e x hx] at hx1; cases hx1
  rw [e] at hQ; exact hQ σ'
end
end Go.V
namespace Go.V
open Go Go.Proofs

section
variable {B:Nat} {w0:World} {G:Nat->AV}
variable (hG:∀ i,zJV (G i))
include hG

theorem c63_ok:zJD (EV B w0 G) 63 C63:=by
 rintro args σ Q ⟨ls,rfl,⟨hb8,hbk⟩,hQ⟩
 refine zN1 hG (fun y hy => ?_) (.int _ _) (fun Q hQ => ?_) hQ
 ·simp only [List.mem_cons,List.not_mem_nil,or_false] at hy
  subst hy; exact zQJ ls
 have hH:zIP (EV B w0 G) (H63 (EV B w0 G)):=zJJ (zKM B w0 G) (zJI (c64_ok hG) zJH)
 refine zKF (cuts:=[]) (zKM B w0 G) hH (fun lp hl _ Q a' σ kk => ?_) ((vc63 B w0 G ls Q).mpr (zE2 (fun h => ?_) (fun h=>⟨⟨rfl,rfl,.refl _⟩,fun hg σ' => ?_,fun hg σ' => ?_⟩)))
 ·change lp∈zKE Tryz.prog [] 63 at hl
  rw [zR1] at hl
  simp only [List.mem_cons,List.not_mem_nil,or_false] at hl
  subst hl
  obtain ⟨hat,hR1,hR2⟩:=kk
  refine zK5 (ls63 ls) (x0:=0) (fun i hI => ?_) (fun i hI e a' σ hne kk => ?_) ⟨Nat.zero_le _,fun l hl=>by simp at hl⟩ hat
  ·obtain ⟨hi,hg⟩:i<=ls.length/\∀ l∈ls.take i,l.all grT=true:=hI
   show AWp _ _ _ _ _ (frm [(0,.v (.slice 1 (lsV ls) .any)),(3,.v (iZ (i:Int)))] []) zJZ
   refine zP3 hH (zKM B w0 G) (by kernel_rfl) ((vc63l B w0 G ls i).mpr (zE2 (fun h => ?_) (fun h=>⟨fun h2 => ?_,trivial⟩)))
   ·have h:=of_decide_eq_true h
    have hk:i<ls.length:=by rw [zQF] at h; omega
    have hm:=List.getElem_mem hk
    refine ⟨⟨by omega,h⟩,ls[i],by rw [Int.toNat_natCast,zQG hk]; rfl,ls[i],rfl,hbk _ hm,zE2 (fun hc=>⟨⟨_,hm,by simpa using hc⟩,rfl,trivial⟩) (fun hc=>⟨i+1,⟨⟨hk,fun l hl => ?_⟩,?_⟩,rfl,?_,noObj_le⟩)⟩
    ·rw [List.take_succ_eq_append_getElem hk] at hl
     rcases List.mem_append.1 hl with hl | hl
     ·exact hg l hl
     ·obtain rfl:l=ls[i]:=by simpa using hl
      simpa using hc
    ·show ls.length - (i+1)<ls.length - i
     omega
    ·have w1:IntKind.wrap .i64 ((i:Int)+1)=((i+1:Nat):Int):=by
      rw [zN8 (by omega) (by omega)]; omega
     rw [w1]
   ·have h:=of_decide_eq_false h
    rw [zQF] at h; omega
  ·obtain ⟨hi,hg⟩:i<=ls.length/\∀ l∈ls.take i,l.all grT=true:=hI
   cases e with
   | exit j =>
    match j,kk with
    | 0,kk =>
     have hk:¬ i<ls.length:=kk.1
     rw [show i=ls.length by omega,List.take_length] at hg
     exact ⟨_,σ,(zJM kk.2).1,.refl _,hR1 hg σ⟩
   | ret=>exact ⟨_,σ,(zJM kk.2).1,.refl _,hR2 kk.1 σ⟩
   | normal=>exact absurd rfl hne
   | _=>exact kk.elim
 ·have h:=of_decide_eq_true h
  rw [zQF] at h
  unfold zR2 at hQ
  rw [if_pos (by omega)] at hQ; exact hQ _
 ·have h:=of_decide_eq_false h
  rw [zQF] at h
  unfold zR2 at hQ
  rw [if_neg (by omega),if_pos (List.all_eq_true.2 hg)] at hQ; exact hQ _
 ·have h:=of_decide_eq_false h
  rw [zQF] at h
  obtain ⟨l,hl,hl1⟩:=hg
  unfold zR2 at hQ
  rw [if_neg (by omega),if_neg (fun e=>by rw [List.all_eq_true.1 e l hl] at hl1; cases hl1)] at hQ; exact hQ _
end
end Go.V




namespace Go.V
open Go Go.Proofs

theorem zR3 (l:List Int) (i:Nat) (x:Int):(zP9 l).set i (iZ x)=zP9 (l.set i x):=by
 unfold zP9; rw [List.map_set]
theorem zR4 {l:List Int} {i:Nat} (h:i<l.length):(zP9 l).getD i .undef=iZ (l.getD i 0):=by
 unfold zP9; rw [List.getD,List.getElem?_map,List.getD,List.getElem?_eq_getElem h]; rfl
theorem getD_set_ne:Nat.succ 7=8:=rfl
end Go.V
