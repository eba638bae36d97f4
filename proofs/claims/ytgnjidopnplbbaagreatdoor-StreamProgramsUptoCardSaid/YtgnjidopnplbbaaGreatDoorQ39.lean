/- A part of the proof of the statement S8 (texts brought together and shortened by a program of this work). -/
import Derived.Test.YtgnjidopnplbbaaGreatDoorQ38
import Derived.Test.YtgnjidopnplbbaaGreatDoorQ13
set_option maxRecDepth 1000000
set_option linter.unusedVariables false
set_option linter.unusedSimpArgs false
set_option linter.unusedSectionVars false
namespace Go.V
open Go Go.Proofs

theorem ze0 {σ:zA6} {s:ByteArray} {m:Int} {v v':AV} {n:Nat} (h:deep Tryz.prog σ (n+1) v=some v'):deep Tryz.prog σ (n+2) (.agg [.str s,iZ m,v])=some (.agg [.str s,iZ m,v']):=by
 have e:deep Tryz.prog σ (n+2) (.agg [.str s,iZ m,v])=(([.str s,iZ m,v]:List AV).mapM (deep Tryz.prog σ (n+1))).map .agg:=rfl
 have h1:deep Tryz.prog σ (n+1) (.str s)=some (.str s):=rfl
 have h2:deep Tryz.prog σ (n+1) (iZ m)=some (iZ m):=rfl
 rw [e]
 simp only [List.mapM_cons,List.mapM_nil,h,h1,h2,Option.bind_eq_bind,Option.bind_some,Option.pure_def,Option.map_some]
theorem ze1:zdD 0=zYU 0:=by kernel_rfl
theorem ze2:zdD 1=zYU 1:=by kernel_rfl
theorem ze3:zdD 2=zYU 2:=by kernel_rfl
theorem ze4:zdD 3=zYU 3:=by kernel_rfl
theorem ze5:zdD 4=zYU 4:=by kernel_rfl
theorem ze6:zdD 5=zYU 5:=by kernel_rfl
theorem ze7:zdD 6=zYU 6:=by kernel_rfl
theorem ze8:zdD 7=zYU 7:=by kernel_rfl
theorem ze9:zdD 8=zYU 8:=by kernel_rfl
theorem zeA:∀ k,k<=8->zdD k=zYU k
 | 0,_=>ze1
 | 1,_=>ze2
 | 2,_=>ze3
 | 3,_=>ze4
 | 4,_=>ze5
 | 5,_=>ze6
 | 6,_=>ze7
 | 7,_=>ze8
 | 8,_=>ze9
 | k+9,h=>absurd h (by omega)
def zeB (i:Nat):List Pr:=(List.range i).map zdE
theorem zeC (i:Nat):zeB (i+1)=zeB i++[zdE i]:=by unfold zeB; rw [List.range_succ,List.map_append]; rfl
theorem zeD (i:Nat):(zeB i).length=i:=by unfold zeB; simp
theorem progP_N {n:Nat} (h:n<=8):zeB (n+1)=zYV n:=by
 unfold zeB zYV
 refine List.map_congr_left fun k hk => ?_
 rw [List.mem_range] at hk
 unfold zdE
 rw [zeA k (by omega)]
section
variable {B:Nat} {w0:World} {G:Nat->AV}
variable (hG:∀ i,zJV (G i))
include hG
theorem c73_ok:zJD (EV B w0 G) 73 C73:=by
 rintro args σ Q ⟨k,rfl,hk,hQ⟩
 refine zDV.pureD (szCs (zdD k)+5) hG (Q0:=fun v σ'=>∃ w,v = .agg [.str ⟨⟨[109,101,114,103,101]⟩⟩,iZ ((k+1:Nat):Int),w]/\zdO σ' w (zdD k)) (fun v hv => ?_) ?_ (fun v σ' kk => ?_)
 ·simp only [List.mem_cons,List.not_mem_nil,or_false] at hv
  subst hv; exact .int _ _
 rotate_left
 ·obtain ⟨w,rfl,hO⟩:=kk
  obtain ⟨v',h1,h2⟩:=hO.deep
  exact ⟨_,_,ze0 h1,Wk.agg (.cons (.refl _) (.cons (.refl _) (.cons h2 .nil))),zYN (zdE k),hQ⟩
 let I:zUC->Prop:=fun y=>y.i<=k/\zdO y.σ y.v (zdB k y.i)
 let R:zUC->Prop:=fun y=>zdO y.σ y.v (zdB k k)
 let Ib:zUC->Prop:=fun y=>y.i<=k/\zdO y.σ y.v (zdB k k++zdC k y.i)
 let Rb:zA6->AV->Prop:=fun σ v=>zdO σ v (zdB k k++zdC k k)
 have w1:IntKind.wrap .i64 ((k:Int)+1)=((k+1:Nat):Int):=by rw [zN8 (by omega) (by omega)]; omega
 have w2:IntKind.wrap .i64 ((k:Int)+2)=((k+2:Nat):Int):=by rw [zN8 (by omega) (by omega)]; omega
 have hpl:(zdB k k).length<=100:=by rw [zdW]; omega
 have ec:k≠0->zdD k=zdB k k++zdC k k:=fun h=>by unfold zdD; rw [if_neg h,List.append_nil]
 refine zKF (cuts:=[]) (zKM B w0 G) (zdZ hG) (fun lp hl _ Q a' σ kk => ?_) ((vc73 B w0 G k I R Ib Rb _).mpr ⟨(k:Int),rfl,((k+1:Nat):Int),by rw [w1],((k+2:Nat):Int),by rw [w2],⟨zJZ,.nilslice,0⟩,⟨Nat.zero_le _,.none⟩,⟨rfl,rfl,rfl,rfl,rfl,rfl,rfl,rfl,rfl,rfl,rfl,by rw [w1],zSM⟩,
  fun y' hy=>⟨⟨y'.σ,y'.v,0⟩,⟨Nat.zero_le _,?_⟩,⟨rfl,rfl,rfl,rfl,rfl,rfl,rfl,rfl,.refl _⟩,fun σ' hb=>zE2 (fun h0 => ?_) (fun h0 => ?_),fun σ' id m hb=>zE2 (fun h0 => ?_) (fun h0 => ?_)⟩⟩)
 ·change lp∈zKE Tryz.prog [] 73 at hl
  rw [zdH] at hl
  simp only [List.mem_cons,List.not_mem_nil,or_false] at hl
  let PP:Code->zDW->zDN->zA6->Prop:=fun c Q a σ=>AWp (EV B w0 G) none (zJ8 Tryz.prog 73) c Q a σ
  rcases hl with h0 | h0
  ·exact zKL (P:=PP) kk (fun _ k=>loop73a hG hk h0 k) (fun k=>zKL (P:=PP) k (fun h k=>by rw [h0,zdI.1] at h; cases h) (fun k=>k.elim))
  ·exact zKL (P:=PP) kk (fun h k=>by rw [h0,zdI.2] at h; cases h) (fun k=>zKL (P:=PP) k (fun _ k=>loop73b hG hk hpl h0 k) (fun k=>k.elim))
 ·show zdO y'.σ y'.v (zdB k k++[])
  rw [List.append_nil]; exact hy
 ·have h0:(k:Int)=0:=by simpa using h0
  obtain rfl:k=0:=by omega
  have hb:zdO σ' .nilslice []:=hb
  rcases hb.untok.untok.untok.cases zdN with ⟨_,hx⟩ | ⟨id,cs,g,h,_⟩
  ·refine .inl ⟨rfl,_,rfl,?_⟩
   repeat' (first | exact rfl | refine And.intro rfl ?_ | refine And.intro (Or.inl ⟨rfl,rfl⟩) ?_ | fail)
   refine ⟨vN 1,zYQ,rfl,?_⟩
   repeat' (first | exact rfl | refine And.intro rfl ?_ | refine And.intro (Or.inl ⟨rfl,rfl⟩) ?_ | fail)
   refine ⟨[vN 1],[eqN (vN 1) zYQ],_,_,_,_,rfl,⟨(zbE (vN 1)).symm,(zbE (eqN (vN 1) zYQ)).symm,(zb7 zdS).bulk⟩,?_⟩
   repeat' (first | exact rfl | refine And.intro rfl ?_ | refine And.intro (Or.inl ⟨rfl,rfl⟩) ?_ | fail)
   exact ⟨⟨by omega,by omega⟩,_,rfl,hx (zd2 raw0)⟩
  ·cases h
 ·have h0:¬ (k:Int)=0:=by simpa using h0
  exact ⟨_,rfl,by rw [ec (by omega)]; exact hb⟩
 ·have h0:(k:Int)=0:=by simpa using h0
  obtain rfl:k=0:=by omega
  have hb:zdO σ' (.rslice id 0 m) []:=hb
  rcases hb.untok.untok.untok.cases zdN with ⟨h,hx⟩ | ⟨id',cs,g,h,ho,hcl,hx⟩
  ·cases h
  ·obtain ⟨rfl,rfl⟩:id=id'/\m=0:=by
    have h:AV.rslice id 0 m = .rslice id' 0 0:=h
    simpa using h
   refine .inr ⟨⟨id,0⟩,rfl,_,rfl,?_⟩
   repeat' (first | exact rfl | refine And.intro rfl ?_ | refine And.intro (Or.inr ⟨⟨id,0⟩,rfl,rfl⟩) ?_ | fail)
   refine ⟨vN 1,zYQ,rfl,?_⟩
   repeat' (first | exact rfl | refine And.intro rfl ?_ | refine And.intro (Or.inr ⟨⟨id,0⟩,rfl,rfl⟩) ?_ | fail)
   refine ⟨[vN 1],[eqN (vN 1) zYQ],_,_,_,_,rfl,⟨(zbE (vN 1)).symm,(zbE (eqN (vN 1) zYQ)).symm,(zb7 zdS).bulk⟩,?_⟩
   repeat' (first | exact rfl | refine And.intro rfl ?_ | refine And.intro (Or.inr ⟨⟨id,0⟩,rfl,rfl⟩) ?_ | fail)
   exact ⟨⟨cs,g⟩,ho,⟨rfl,⟨by show (0+1)*88<=_; omega,by show 0+1<=_; omega⟩,hcl⟩,_,rfl,hx (zd2 raw0)⟩
 ·have h0:¬ (k:Int)=0:=by simpa using h0
  exact ⟨_,rfl,by rw [ec (by omega)]; exact hb⟩
omit hG in
theorem deep_one {σ:zA6} {v v':AV} {e:Int} {n:Nat} (h:deep Tryz.prog σ (n+1) v=some v'):deep Tryz.prog σ (n+3) (.tuple [.agg [v],iZ e])=some (.tuple [.agg [v'],iZ e]):=by
 have h1:deep Tryz.prog σ (n+2) (.agg [v])=some (.agg [v']):=by
  have e1:deep Tryz.prog σ (n+2) (.agg [v])=(([v]:List AV).mapM (deep Tryz.prog σ (n+1))).map .agg:=rfl
  rw [e1]
  simp only [List.mapM_cons,List.mapM_nil,h,Option.bind_eq_bind,Option.bind_some,Option.pure_def,Option.map_some]
 exact zbP h1
def C34:zJC:=C25g
theorem c34_ok:zJD (EV B w0 G) 34 C34:=by
 rintro args σ Q ⟨z,rfl,hQ⟩
 refine zDV.pureD (szPs (zbG z).2+8) hG (Q0:=fun v σ'=>∃ w,v = .tuple [.agg [w],iZ (zbG z).1]/\OutP σ' w (zbG z).2) (fun v hv => ?_) ?_ (fun v σ' kk => ?_)
 ·simp only [List.mem_cons,List.not_mem_nil,or_false] at hv
  subst hv; exact .int _ _
 rotate_left
 ·obtain ⟨w,rfl,hO⟩:=kk
  obtain ⟨v',h1,h2⟩:=hO.deep
  refine ⟨_,_,deep_one h1,Wk.tuple (.cons (Wk.agg (.cons h2 .nil)) (.cons (.refl _) .nil)),.tuple fun v hv => ?_,hQ⟩
  simp only [List.mem_cons,List.not_mem_nil,or_false] at hv
  rcases hv with rfl | rfl
  ·exact zWN _
  ·exact .int _ _
 have bad:(z<0\/z > 8)->∃ w,AV.tuple [.agg [.nilslice],iZ 1] = .tuple [.agg [w],iZ (zbG z).1]/\OutP zJZ w (zbG z).2:=fun h=>by
  unfold zbG
  rw [if_pos h]
  exact ⟨_,rfl,.none⟩
 by_cases hz:z<0\/z > 8
 ·refine zKF (cuts:=[]) (zKM B w0 G) (zJJ (zKM B w0 G) (zJI (c73_ok hG) zJH)) (fun lp hl _ Q a' σ kk => ?_) ((vc34 B w0 G z (fun _=>False) (fun _ _=>False) (fun _ _=>False) _).mpr (zE2 (fun h=>bad hz) (fun h=>zE2 (fun h2=>bad hz) (fun h2 => ?_))))
  ·obtain ⟨n,y,⟨h,_⟩,_⟩:=kk
   exact h.elim
  ·have h:=of_decide_eq_false h
   have h2:=of_decide_eq_false h2
   omega
 ·obtain ⟨n,hn⟩:∃ n:Nat,z=(n:Int):=⟨z.toNat,by omega⟩
  have hn8:n<=8:=by omega
  have hp:zbG z=(0,zeB (n+1)):=by unfold zbG; rw [if_neg hz,hn,Int.toNat_natCast,progP_N hn8]
  rw [hp]
  let I:Nat->zUC->Prop:=fun n y=>y.i<=n+1/\OutP y.σ y.v (zeB y.i)
  let R:zA6->AV->Prop:=fun σ v=>OutP σ v (zeB (n+1))
  have hH:zIP (EV B w0 G) (hnd (EV B w0 G) zHI zMU [(73,C73)]):=zJJ (zKM B w0 G) (zJI (c73_ok hG) zJH)
  refine zKF (cuts:=[]) (zKM B w0 G) hH (fun lp hl _ Q a' σ kk => ?_) ((vc34 B w0 G z (fun m=>m=n) I R _).mpr (zE2 (fun h => ?_) (fun h=>zE2 (fun h2 => ?_) (fun h2=>⟨n,⟨zJZ,.nilslice,0⟩,⟨rfl,Nat.zero_le _,.none⟩,⟨by rw [hn],rfl,rfl,rfl,rfl,rfl,.refl _⟩,fun σ' hr=>⟨_,rfl,hr⟩,fun σ' id m hr=>⟨_,rfl,hr⟩⟩))))
  ·change lp∈zKE Tryz.prog [] 34 at hl
   rw [zdL] at hl
   simp only [List.mem_cons,List.not_mem_nil,or_false] at hl
   subst hl
   obtain ⟨n',y0,⟨rfl,hI0⟩,hat,hR1,hR2⟩:=kk
   refine zK5 (zdK n' (I n')) (x0:=y0) (fun y hI => ?_) (fun y hI e a' σ hne kk => ?_) hI0 hat
   ·obtain ⟨σy,v,i⟩:=y
    obtain ⟨hi,hO⟩:=hI
    change i<=n'+1 at hi
    change OutP σy v (zeB i) at hO
    refine zP3 hH (zKM B w0 G) (by kernel_rfl) ((vc34l B w0 G n' _ σy v i).mpr (zE2 (fun h => ?_) (fun h=>⟨fun h2 => ?_,rfl,rfl,rfl,rfl,.refl _⟩)))
    ·have h:(i:Int)<=(n':Int):=of_decide_eq_true h
     have hk2:i<n'+1:=by omega
     have hs:=zeC i
     have hl:=zeD i
     have hμ:n'+1 - (i+1)<n'+1 - i:=by omega
     have hw:=congrArg (fun z=>TV.v (iZ z)) (wI1 hk2 (by omega))
     rcases hO.untok.cases prLen with ⟨rfl,hx⟩ | ⟨id,cs,g,rfl,ho,hcl,hx⟩
     ·exact .inl ⟨rfl,i,rfl,by omega,rfl,.inl ⟨rfl,rfl⟩,⟨by omega,by omega⟩,⟨_,.rslice σy.next 0 1,i+1⟩,⟨⟨hk2,by show OutP _ _ (zeB (i+1)); rw [hs]; exact hx (zdE i)⟩,hμ⟩,rfl,rfl,rfl,hw,rfl,rfl,.refl _⟩
     ·exact .inr ⟨⟨id,(zeB i).length⟩,rfl,i,rfl,by omega,rfl,.inr ⟨⟨id,(zeB i).length⟩,rfl,rfl⟩,⟨cs,g⟩,ho,⟨rfl,⟨by show ((zeB i).length+1)*48<=_; omega,by show (zeB i).length+1<=_; omega⟩,hcl⟩,⟨_,.rslice σy.next 0 ((zeB i).length+1),i+1⟩,⟨⟨hk2,by show OutP _ _ (zeB (i+1)); rw [hs]; exact hx (zdE i)⟩,hμ⟩,rfl,rfl,rfl,hw,rfl,rfl,.refl _⟩
    ·have h:¬ (i:Int)<=(n':Int):=of_decide_eq_false h
     have h2:i<=n':=h2
     omega
   ·obtain ⟨σy,v,i⟩:=y
    obtain ⟨hi,hO⟩:=hI
    change i<=n'+1 at hi
    change OutP σy v (zeB i) at hO
    cases e with
    | exit q =>
     match q,kk with
     | 0,kk =>
      obtain ⟨hk2,hat⟩:=kk
      have hk2:¬ i<=n':=hk2
      rw [show i=n'+1 by omega] at hO
      rcases hO.cases prLen with ⟨rfl,_⟩ | ⟨id,cs,g,rfl,_⟩
      ·exact ⟨_,_,(zJM hat).1,(zJM hat).2,hR1 σy hO⟩
      ·exact ⟨_,_,(zJM hat).1,(zJM hat).2,hR2 σy _ _ hO⟩
    | normal=>exact absurd rfl hne
    | _=>exact kk.elim
  ·exact absurd (Or.inl (of_decide_eq_true h)) hz
  ·exact absurd (Or.inr (of_decide_eq_true h2)) hz
end
end Go.V
namespace Go.V
open Go Go.Proofs
variable (B:Nat) (w0:World) (G:Nat->AV)
def C80q:zJC:=fun args σ K=>∃ (p:List Pr) (g:T),args=[zSI p,.agg [iZ 1,.slice 4 [.agg (tc g)] .full]]/\((zY4 p/\zWP g)/\K (iZ (if zSH p ⟨1,[g]⟩=true then 0 else 5)) σ.untok)
def OkB (ls:List (List T)):Prop:=ls.length<=1000/\∀ l∈ls,l.length<=1000000/\∀ x∈l,x.bulk<=1099511627776
def C63':zJC:=fun args σ K=>∃ ls:List (List T),args=[.slice 1 (lsV ls) .any]/\(OkB ls/\K (iZ (zR2 ls)) σ.untok)
def zeE (ls:List (List T)) (I:zUC->Prop) (No:Prop):LS zUC where
 F y:=[(0,.v (.slice 1 (lsV ls) .any)),(2,.l 2 0),(5,.v y.v),(6,.v (iZ (y.i:Int)))]
 FL _:=[(2,zb0)]
 S y:=y.σ
 I:=I
 μ y:=ls.length - y.i
 Ex y e a σ:=match e with
  | .exit 0=>¬ (y.i<ls.length)/\atF a [(0,.v (.slice 1 (lsV ls) .any)),(2,.l 2 0),(5,.v y.v)] [(2,zb0)] (y.σ.Le σ)
  | .ret=>No/\atF a [(2,.l 2 0),(3,.v (iZ 2))] [(2,zb0)] True
  | _=>False
def N36:zIE:=hAt [(8,2,hSl),(10,3,hSl),(10,0,zP6),(10,8,hEl 37 4),(11,0,zP6),(11,3,hEl 37 4)]
def ann36f:zDM:=⟨fun id i=>match Nat.beq id 11&&Nat.beq i 3 with | true => .frz | false=>match Nat.beq id 4&&Nat.beq i 0 with | true => .ref | false=>(zHI 36).ann id i,(zHI 36).eff⟩
def annF36 (f:Nat):zDM:=match Nat.beq f 36 with | true=>ann36f | false=>zHI f
theorem zeF:zKE Tryz.prog [] 36=[.loop (lB 36 0)]:=by kernel_rfl
def H36 (E:Env):zDY:=hnd E zHI zMU [(63,C63'),(77,C77),(76,C76),(78,C78),(79,C79w),(34,C34),(80,C80q)]
theorem vc36l (ls:List (List T)) (I:zUC->Prop) (No:Prop) (σ:zA6) (v:AV) (i:Nat):(wpX [] (EV B w0 G) (H36 (EV B w0 G)) nL (annF36 36) N36 (lB 36 0) ((zeE ls I No).post ⟨σ,v,i⟩) (frm ((zeE ls I No).F ⟨σ,v,i⟩) ((zeE ls I No).FL ⟨σ,v,i⟩)) σ) =
 (bcase (decide ((i:Int)<(List.length (lsV ls):Int)))
 (((0:Int)<=(i:Int)/\(i:Int)<(List.length (lsV ls):Int))/\∃ x0:List T,AV.vptr (AV.cells (List.getD (lsV ls) (Int.toNat (↑i:Int)) AV.undef))=AV.vptr [sT x0]/\bcase (decide ((List.length (tcellL x0):Int) > 400))
 (No /\Rf (TV.l 2 0)/\Rf (TV.v (iZ 2))/\Rf [iZ 0,AV.nilslice]/\True)
 ((v=AV.nilslice/\((0:Int)<=(i:Int)/\(i:Int)<(List.length (lsV ls):Int))/\∃ x1:List T,AV.vptr (AV.cells (List.getD (lsV ls) (Int.toNat (↑i:Int)) AV.undef))=AV.vptr [sT x1]/\∃ s2:ByteArray,[AV.str ⟨⟨[91,93]⟩⟩]=[AV.str s2]/\Dn v AV.nilslice/\Rf (TV.v (AV.slice 1 (lsV ls) Cap.any))/\Rf (TV.v (iZ (i:Int)))/\(((0:Int)<=(i:Int)/\(i:Int)<(List.length (lsV ls):Int))/\∃ x3:List T,AV.vptr (AV.cells (List.getD (lsV ls) (Int.toNat (↑i:Int)) AV.undef))=AV.vptr [sT x3]/\TV.v (AV.vptr [sT x3])=TV.v (AV.vptr [sT x1]))/\Rf (TV.v (sT x1))/\∃ l3:List T,∃ e4:T,[sT x1,AV.agg [iZ 3,iZ 0,AV.str (T.s (T.mk 3 0 s2 [])),AV.slice 4 [] Cap.any]]=[sT l3,AV.agg (tc e4)]/\List.length l3<=1000000/\Dn v AV.nilslice/\Bd0 56 1/\∃ x'5:zUC,(I x'5/\LS.μ (zeE ls I No) x'5<LS.μ (zeE ls I No) (zUC.mk σ v i))/\Rf (TV.v (AV.slice 1 (lsV ls) Cap.any))/\Rf (TV.l 2 0)/\TV.v (AV.rslice (zA6.next σ) 0 1)=TV.v (zUC.v x'5)/\TV.v (iZ (IntKind.wrap .i64 ((i:Int)+1)))=TV.v (iZ (zUC.i x'5:Int))/\Rf [iZ 0,AV.nilslice]/\zA6.Le ((zeE ls I No).3 x'5) (zA6.new (Ut (Ut σ)) (zA5.cells (tc (zZC l3 e4)) 37 4 true)))\/∃ x1:RS,v=AV.rslice (RS.id x1) 0 (RS.n x1)/\((0:Int)<=(i:Int)/\(i:Int)<(List.length (lsV ls):Int))/\∃ x2:List T,AV.vptr (AV.cells (List.getD (lsV ls) (Int.toNat (↑i:Int)) AV.undef))=AV.vptr [sT x2]/\∃ s3:ByteArray,[AV.str ⟨⟨[91,93]⟩⟩]=[AV.str s3]/\Dn v (AV.rslice (RS.id x1) 0 (RS.n x1))/\Rf (TV.v (AV.slice 1 (lsV ls) Cap.any))/\Rf (TV.v (iZ (i:Int)))/\(((0:Int)<=(i:Int)/\(i:Int)<(List.length (lsV ls):Int))/\∃ x4:List T,AV.vptr (AV.cells (List.getD (lsV ls) (Int.toNat (↑i:Int)) AV.undef))=AV.vptr [sT x4]/\TV.v (AV.vptr [sT x4])=TV.v (AV.vptr [sT x2]))/\Rf (TV.v (sT x2))/\∃ l4:List T,∃ e5:T,[sT x2,AV.agg [iZ 3,iZ 0,AV.str (T.s (T.mk 3 0 s3 [])),AV.slice 4 [] Cap.any]]=[sT l4,AV.agg (tc e5)]/\List.length l4<=1000000/\Dn v (AV.rslice (RS.id x1) 0 (RS.n x1))/\∃ a6:OE,zA6.objs (Ut (Ut σ)) (RS.id x1)=zA5.cells (OE.cs a6) 37 4 (OE.g a6)/\((0:Nat)=0/\Bd ((RS.n x1)+1) 56/\(((RS.n x1)*4):Nat)<=List.length (OE.cs a6))/\∃ x'7:zUC,(I x'7/\LS.μ (zeE ls I No) x'7<LS.μ (zeE ls I No) (zUC.mk σ v i))/\Rf (TV.v (AV.slice 1 (lsV ls) Cap.any))/\Rf (TV.l 2 0)/\TV.v (AV.rslice (zA6.next σ) 0 ((RS.n x1)+1))=TV.v (zUC.v x'7)/\TV.v (iZ (IntKind.wrap .i64 ((i:Int)+1)))=TV.v (iZ (zUC.i x'7:Int))/\Rf [iZ 0,AV.nilslice]/\zA6.Le ((zeE ls I No).3 x'7) (zA6.new (zA6.set (Ut (Ut σ)) (RS.id x1) zA5.dead) (zA5.cells ((List.take ((RS.n x1)*4) (OE.cs a6))++(tc (zZC l4 e5))) 37 4 true))))
 (((i<List.length ls)->False)/\Rf (TV.v (AV.slice 1 (lsV ls) Cap.any))/\Rf (TV.l 2 0)/\Rf (TV.v v)/\Rf [iZ 0,AV.nilslice]/\zA6.Le σ σ)):=by kernel_rfl
def T36 (ls:List (List T)) (I R:zUC->Prop) (No:Prop):zFV:=fun _ Q a σ=>∃ y:zUC,I y/\atF a ((zeE ls I No).F y) ((zeE ls I No).FL y) (y.σ.Le σ) /\
 ((∀ y':zUC,R y'->Q (.exit 0) (frm [(0,.v (.slice 1 (lsV ls) .any)),(2,.l 2 0),(5,.v y'.v)] [(2,zb0)]) y'.σ)/\(No->∀ σ':zA6,Q .ret (frm [(2,.l 2 0),(3,.v (iZ 2))] [(2,zb0)]) σ'))
theorem vc36 (ls:List (List T)) (I R:zUC->Prop) (No:Prop) (Q:AV->zA6->Prop):(zKD [] (EV B w0 G) (H36 (EV B w0 G)) (T36 ls I R No) annF36 N36 36 [.slice 1 (lsV ls) .any] zJZ Q) =
 (∃ ls0:List (List T),[AV.slice 1 (lsV ls) Cap.any]=[AV.slice 1 (lsV ls0) Cap.any]/\(List.length ls0<=1000/\(∀ l1:List T,((l1∈ls0)->(List.length l1<=1000000/\(∀ x2:T,((x2∈l1)->(T.bulk x2<=1099511627776)))))))/\bcase (((zR2 ls0):Int) != 0)
 (Q (AV.tuple [AV.agg [iZ 0,AV.nilslice],iZ (zR2 ls0)]) (Ut zJZ))
 (∃ y1:zUC,I y1/\(Rf (TV.v (AV.slice 1 (lsV ls) Cap.any))/\Rf (TV.l 2 0)/\TV.v (AV.rslice 0 0 0)=TV.v (zUC.v y1)/\TV.v (iZ 0)=TV.v (iZ (zUC.i y1:Int))/\Rf [iZ 0,AV.nilslice]/\zA6.Le y1.1 (zA6.new (Ut zJZ) (zA5.cells [] 37 4 false)))/\(∀ y'2:zUC,((R y'2)->((zUC.v y'2=AV.nilslice/\∃ k3:Int,[iZ 0]=[iZ k3]/\Bd0 56 1/\∃ l4:List T,∃ m5:Cap,[AV.slice 4 [AV.agg (tc (vZ k3))] (Cap.tok (zA6.next y'2.1))]=[AV.slice 4 (tcellL l4) m5]/\∃ n6:Int,[iZ (List.length (lsV ls):Int)]=[iZ n6]/\∃ p7:List Pr,∃ g8:T,[AV.agg [AV.slice 3 (List.map prV (Prod.snd (zbG n6))) Cap.any],AV.agg [iZ 1,AV.slice 4 [AV.agg [iZ 5,iZ 0,AV.str ⟨⟨[109,101,114,103,101]⟩⟩,sT (T.l (zYS l4))]] Cap.full]]=[AV.agg [AV.slice 3 (List.map prV p7) Cap.any],AV.agg [iZ 1,AV.slice 4 [AV.agg (tc g8)] Cap.full]]/\(zY4 p7/\zWP g8)/\bcase (((if zSH p7 { vars:=1,goals:=[g8] }=Bool.true then 0 else 5):Int) != 0)
 (Q (AV.tuple [AV.agg [iZ 0,AV.nilslice],iZ 2]) (Ut (Ut (Ut (zA6.new (Ut y'2.1) (zA5.tok 1 37 4))))))
 (Q (AV.tuple [AV.agg [iZ 1,AV.slice 4 [AV.agg [iZ 5,iZ 0,AV.str ⟨⟨[109,101,114,103,101]⟩⟩,sT (T.l (zYS l4))]] Cap.full],iZ 0]) (Ut (Ut (Ut (zA6.new (Ut y'2.1) (zA5.tok 1 37 4)))))))\/∃ x3:RS,zUC.v y'2=AV.rslice (RS.id x3) 0 (RS.n x3)/\∃ k4:Int,[iZ 0]=[iZ k4]/\∃ a5:OE,zA6.objs (Ut y'2.1) (RS.id x3)=zA5.cells (OE.cs a5) 37 4 (OE.g a5)/\((0:Nat)=0/\Bd ((RS.n x3)+1) 56/\(((RS.n x3)*4):Nat)<=List.length (OE.cs a5))/\∃ a6:OE,zA6.objs (zA6.new (zA6.set (Ut y'2.1) (RS.id x3) zA5.dead) (zA5.cells ((List.take ((RS.n x3)*4) (OE.cs a5))++(tc (vZ k4))) 37 4 true)) (zA6.next y'2.1)=zA5.cells (OE.cs a6) 37 4 (OE.g a6)/\List.length (OE.cs a6)=(((RS.n x3)+1)*4)/\∃ l7:List T,∃ m8:Cap,[AV.slice 4 (zAH (Option.some 4) (OE.cs a6) ((RS.n x3)+1)) (Cap.tok (zA6.next y'2.1))]=[AV.slice 4 (tcellL l7) m8]/\∃ n9:Int,[iZ (List.length (lsV ls):Int)]=[iZ n9]/\∃ p10:List Pr,∃ g11:T,[AV.agg [AV.slice 3 (List.map prV (Prod.snd (zbG n9))) Cap.any],AV.agg [iZ 1,AV.slice 4 [AV.agg [iZ 5,iZ 0,AV.str ⟨⟨[109,101,114,103,101]⟩⟩,sT (T.l (zYS l7))]] Cap.full]]=[AV.agg [AV.slice 3 (List.map prV p10) Cap.any],AV.agg [iZ 1,AV.slice 4 [AV.agg (tc g11)] Cap.full]]/\(zY4 p10/\zWP g11)/\bcase (((if zSH p10 { vars:=1,goals:=[g11] }=Bool.true then 0 else 5):Int) != 0)
 (Q (AV.tuple [AV.agg [iZ 0,AV.nilslice],iZ 2]) (Ut (Ut (Ut (zA6.set (zA6.new (zA6.set (Ut y'2.1) (RS.id x3) zA5.dead) (zA5.cells ((List.take ((RS.n x3)*4) (OE.cs a5))++(tc (vZ k4))) 37 4 true)) (zA6.next y'2.1) (zA5.tok ((RS.n x3)+1) 37 4))))))
 (Q (AV.tuple [AV.agg [iZ 1,AV.slice 4 [AV.agg [iZ 5,iZ 0,AV.str ⟨⟨[109,101,114,103,101]⟩⟩,sT (T.l (zYS l7))]] Cap.full],iZ 0]) (Ut (Ut (Ut (zA6.set (zA6.new (zA6.set (Ut y'2.1) (RS.id x3) zA5.dead) (zA5.cells ((List.take ((RS.n x3)*4) (OE.cs a5))++(tc (vZ k4))) 37 4 true)) (zA6.next y'2.1) (zA5.tok ((RS.n x3)+1) 37 4)))))))))/\((No )->(∀ σ'2:zA6,Q (AV.tuple [AV.agg [iZ 0,AV.nilslice],iZ 2]) σ'2)))):=by kernel_rfl
def C36:zJC:=fun args σ K=>∃ ls:List (List T),args=[.slice 1 (lsV ls) .any]/\(OkB ls/\K (.tuple [quV (za5 ls).2,iZ (za5 ls).1]) σ.untok)
def zeG (ls:List (List T)) (o:List Int) (I:zUC->Prop):LS zUC where
 F y:=[(0,.v (.slice 1 (lsV ls) .any)),(1,.v (.slice 1 (zP9 o) .any)),(7,.v y.v),(8,.v (iZ (2*(y.i:Int)))),(9,.v (iZ (2*(y.i:Int)+1))),(10,.v (iZ (y.i:Int)))]
 FL _:=[]
 S y:=y.σ
 I:=I
 μ y:=o.length - y.i
 Ex y e a σ:=match e with
  | .exit 0=>¬ (y.i<o.length)/\atF a [(0,.v (.slice 1 (lsV ls) .any)),(7,.v y.v),(8,.v (iZ (2*(y.i:Int)))),(9,.v (iZ (2*(y.i:Int)+1)))] [] (y.σ.Le σ)
  | _=>False
def N38:zIE:=hAt [(15,0,zP6),(15,4,zTP),(15,10,hEl 119 2),(21,0,zP6),(21,5,hEl 119 2),(24,0,zP6),(24,6,hEl 119 2)]
theorem zeH:zKE Tryz.prog [] 38=[.loop (lB 38 0),.loop (lB 38 1)]:=by kernel_rfl
theorem zeI:zKA (.loop (lB 38 0))=some 13/\zKA (.loop (lB 38 1))=some 19:=by refine ⟨?_,?_⟩ <;> kernel_rfl
theorem vc38a (ls:List (List T)) (o:List Int) (I:zUC->Prop) (σ:zA6) (v:AV) (i:Nat):(wpX [] (EV B w0 G) (H0 (EV B w0 G)) nL (zc8 38 [(9,0)]) N38 (lB 38 0) ((zeG ls o I).post ⟨σ,v,i⟩) (frm ((zeG ls o I).F ⟨σ,v,i⟩) []) σ) =
 (bcase (decide ((i:Int)<(List.length (zP9 o):Int)))
 ((v=AV.nilslice/\((0:Int)<=(i:Int)/\(i:Int)<(List.length (zP9 o):Int))/\∃ x0:Int,AV.vptr (AV.cells (List.getD (zP9 o) (Int.toNat (↑i:Int)) AV.undef))=AV.vptr [iZ x0]/\Bd0 32 2/\∃ x'1:zUC,(I x'1/\LS.μ (zeG ls o I) x'1<LS.μ (zeG ls o I) (zUC.mk σ v i))/\Rf (TV.v (AV.slice 1 (lsV ls) Cap.any))/\Rf (TV.v (AV.slice 1 (zP9 o) Cap.any))/\TV.v (AV.rslice (zA6.next σ) 0 2)=TV.v (zUC.v x'1)/\TV.v (iZ (IntKind.wrap .i64 (((2*(i:Int))+1)+1)))=TV.v (iZ (2*(zUC.i x'1:Int)))/\TV.v (iZ (IntKind.wrap .i64 (((2*(i:Int))+1)+2)))=TV.v (iZ ((2*(zUC.i x'1:Int))+1))/\TV.v (iZ (IntKind.wrap .i64 ((i:Int)+1)))=TV.v (iZ (zUC.i x'1:Int))/\zA6.Le ((zeG ls o I).3 x'1) (zA6.new σ (zA5.cells [iZ (2*(i:Int)),iZ x0,iZ ((2*(i:Int))+1),iZ (-1)] 119 2 true)))\/∃ x0:RS,v=AV.rslice (RS.id x0) 0 (RS.n x0)/\((0:Int)<=(i:Int)/\(i:Int)<(List.length (zP9 o):Int))/\∃ x1:Int,AV.vptr (AV.cells (List.getD (zP9 o) (Int.toNat (↑i:Int)) AV.undef))=AV.vptr [iZ x1]/\∃ a2:OE,zA6.objs σ (RS.id x0)=zA5.cells (OE.cs a2) 119 2 (OE.g a2)/\((0:Nat)=0/\Bd ((RS.n x0)+2) 16/\(((RS.n x0)*2):Nat)<=List.length (OE.cs a2))/\∃ x'3:zUC,(I x'3/\LS.μ (zeG ls o I) x'3<LS.μ (zeG ls o I) (zUC.mk σ v i))/\Rf (TV.v (AV.slice 1 (lsV ls) Cap.any))/\Rf (TV.v (AV.slice 1 (zP9 o) Cap.any))/\TV.v (AV.rslice (zA6.next σ) 0 ((RS.n x0)+2))=TV.v (zUC.v x'3)/\TV.v (iZ (IntKind.wrap .i64 (((2*(i:Int))+1)+1)))=TV.v (iZ (2*(zUC.i x'3:Int)))/\TV.v (iZ (IntKind.wrap .i64 (((2*(i:Int))+1)+2)))=TV.v (iZ ((2*(zUC.i x'3:Int))+1))/\TV.v (iZ (IntKind.wrap .i64 ((i:Int)+1)))=TV.v (iZ (zUC.i x'3:Int))/\zA6.Le ((zeG ls o I).3 x'3) (zA6.new (zA6.set σ (RS.id x0) zA5.dead) (zA5.cells ((List.take ((RS.n x0)*2) (OE.cs a2))++[iZ (2*(i:Int)),iZ x1,iZ ((2*(i:Int))+1),iZ (-1)]) 119 2 true)))
 (((i<List.length o)->False)/\Rf (TV.v (AV.slice 1 (lsV ls) Cap.any))/\Rf (TV.v v)/\Rf (TV.v (iZ (2*(i:Int))))/\Rf (TV.v (iZ ((2*(i:Int))+1)))/\zA6.Le σ σ)):=by kernel_rfl
def zeJ (m n:Nat) (I:zUC->Prop):LS zUC where
 F y:=[(7,.v y.v),(8,.v (iZ (((m+n:Nat):Int) - (y.i:Int)))),(9,.v (iZ (((m+n:Nat):Int) - (y.i:Int)+1))),(11,.v (iZ (y.i:Int)))]
 FL _:=[]
 S y:=y.σ
 I:=I
 μ y:=y.i
 Ex y e a σ:=match e with
  | .exit 2=>y.i=0/\atF a [(7,.v y.v),(8,.v (iZ (((m+n:Nat):Int) - (y.i:Int)))),(9,.v (iZ (((m+n:Nat):Int) - (y.i:Int)+1)))] [] (y.σ.Le σ)
  | _=>False
theorem vc38b (m n:Nat) (I:zUC->Prop) (σ:zA6) (v:AV) (i:Nat):(wpX [] (EV B w0 G) (H0 (EV B w0 G)) nL (zc8 38 [(9,0)]) N38 (lB 38 1) ((zeJ m n I).post ⟨σ,v,i⟩) (frm ((zeJ m n I).F ⟨σ,v,i⟩) []) σ) =
 (bcase (decide ((i:Int) > 0))
 ((v=AV.nilslice/\Bd0 16 1/\∃ x'0:zUC,(I x'0/\LS.μ (zeJ m n I) x'0<LS.μ (zeJ m n I) (zUC.mk σ v i))/\TV.v (AV.rslice (zA6.next σ) 0 1)=TV.v (zUC.v x'0)/\TV.v (iZ (((((m+n):Nat):Int) - (i:Int))+1))=TV.v (iZ ((((m+n):Nat):Int) - (zUC.i x'0:Int)))/\TV.v (iZ (IntKind.wrap .i64 ((((((m+n):Nat):Int) - (i:Int))+1)+1)))=TV.v (iZ (((((m+n):Nat):Int) - (zUC.i x'0:Int))+1))/\TV.v (iZ (IntKind.wrap .i64 ((i:Int) - 1)))=TV.v (iZ (zUC.i x'0:Int))/\zA6.Le ((zeJ m n I).3 x'0) (zA6.new σ (zA5.cells [iZ ((((m+n):Nat):Int) - (i:Int)),iZ (i:Int)] 119 2 true)))\/∃ x0:RS,v=AV.rslice (RS.id x0) 0 (RS.n x0)/\∃ a1:OE,zA6.objs σ (RS.id x0)=zA5.cells (OE.cs a1) 119 2 (OE.g a1)/\((0:Nat)=0/\Bd ((RS.n x0)+1) 16/\(((RS.n x0)*2):Nat)<=List.length (OE.cs a1))/\∃ x'2:zUC,(I x'2/\LS.μ (zeJ m n I) x'2<LS.μ (zeJ m n I) (zUC.mk σ v i))/\TV.v (AV.rslice (zA6.next σ) 0 ((RS.n x0)+1))=TV.v (zUC.v x'2)/\TV.v (iZ (((((m+n):Nat):Int) - (i:Int))+1))=TV.v (iZ ((((m+n):Nat):Int) - (zUC.i x'2:Int)))/\TV.v (iZ (IntKind.wrap .i64 ((((((m+n):Nat):Int) - (i:Int))+1)+1)))=TV.v (iZ (((((m+n):Nat):Int) - (zUC.i x'2:Int))+1))/\TV.v (iZ (IntKind.wrap .i64 ((i:Int) - 1)))=TV.v (iZ (zUC.i x'2:Int))/\zA6.Le ((zeJ m n I).3 x'2) (zA6.new (zA6.set σ (RS.id x0) zA5.dead) (zA5.cells ((List.take ((RS.n x0)*2) (OE.cs a1))++[iZ ((((m+n):Nat):Int) - (i:Int)),iZ (i:Int)]) 119 2 true)))
 (i=0/\Rf (TV.v v)/\Rf (TV.v (iZ ((((m+n):Nat):Int) - (i:Int))))/\Rf (TV.v (iZ (((((m+n):Nat):Int) - (i:Int))+1)))/\zA6.Le σ σ)):=by kernel_rfl
def T38a (ls:List (List T)) (o:List Int) (I R:zUC->Prop):zFV:=fun _ Q a σ=>∃ y:zUC,I y/\atF a ((zeG ls o I).F y) [] (y.σ.Le σ)/\∀ y':zUC,R y'->Q (.exit 0) (frm [(0,.v (.slice 1 (lsV ls) .any)),(7,.v y'.v),(8,.v (iZ (2*(o.length:Int)))),(9,.v (iZ (2*(o.length:Int)+1)))] []) y'.σ
def T38b (m n:Nat) (I R:zUC->Prop):zFV:=fun _ Q a σ=>∃ y:zUC,I y/\atF a ((zeJ m n I).F y) [] (y.σ.Le σ)/\∀ y':zUC,R y'->Q (.exit 2) (frm [(7,.v y'.v),(8,.v (iZ ((m+n:Nat):Int))),(9,.v (iZ (((m+n:Nat):Int)+1)))] []) y'.σ
theorem vc38 (ls:List (List T)) (o:List Int) (Ic Rc Id Rd:zUC->Prop) (Q:AV->zA6->Prop):(zKD [] (EV B w0 G) (hnd (EV B w0 G) zHI zMU [(63,C63'),(81,C81),(36,C36)]) (zKK [(13,T38a ls o Ic Rc),(19,T38b (2*o.length) ls.length Id Rd)]) (refA 38 [(9,0)]) N38 38 [.slice 1 (lsV ls) .any,.slice 1 (zP9 o) .any] zJZ Q) =
 (∃ ls0:List (List T),[AV.slice 1 (lsV ls) Cap.any]=[AV.slice 1 (lsV ls0) Cap.any]/\(List.length ls0<=1000/\(∀ l1:List T,((l1∈ls0)->(List.length l1<=1000000/\(∀ x2:T,((x2∈l1)->(T.bulk x2<=1099511627776)))))))/\bcase (((zR2 ls0):Int) != 0)
 (Q (AV.tuple [AV.nilslice,iZ (zR2 ls0)]) (Ut zJZ))
 (∃ ls1:List (List T),∃ o2:List Int,[AV.slice 1 (lsV ls) Cap.any,AV.slice 1 (zP9 o) Cap.any]=[AV.slice 1 (lsV ls1) Cap.any,AV.slice 1 (zP9 o2) Cap.any]/\(List.length ls1<=1000000/\List.length o2<=1099511627776/\(∀ l3:List T,((l3∈ls1)->(List.length l3<=1000000))))/\bcase (!(zZN ls1 o2))
 (Q (AV.tuple [AV.nilslice,iZ 1]) (Ut (Ut zJZ)))
 (∃ ls3:List (List T),[AV.slice 1 (lsV ls) Cap.any]=[AV.slice 1 (lsV ls3) Cap.any]/\(List.length ls3<=1000/\(∀ l4:List T,((l4∈ls3)->(List.length l4<=1000000/\(∀ x5:T,((x5∈l4)->(T.bulk x5<=1099511627776)))))))/\bcase (((Prod.fst (za5 ls3)):Int) != 0)
 (Q (AV.tuple [AV.nilslice,iZ (Prod.fst (za5 ls3))]) (Ut (Ut (Ut zJZ))))
 (∃ y4:zUC,Ic y4/\(Rf (TV.v (AV.slice 1 (lsV ls) Cap.any))/\Rf (TV.v (AV.slice 1 (zP9 o) Cap.any))/\TV.v (AV.rslice 0 0 0)=TV.v (zUC.v y4)/\TV.v (iZ 0)=TV.v (iZ (2*(zUC.i y4:Int)))/\TV.v (iZ 1)=TV.v (iZ ((2*(zUC.i y4:Int))+1))/\TV.v (iZ 0)=TV.v (iZ (zUC.i y4:Int))/\zA6.Le y4.1 (zA6.new (Ut (Ut (Ut zJZ))) (zA5.cells [] 119 2 false)))/\(∀ y'5:zUC,((Rc y'5)->(∃ y6:zUC,Id y6/\(TV.v (zUC.v y'5)=TV.v (zUC.v y6)/\TV.v (iZ (2*(List.length o:Int)))=TV.v (iZ (((((2*(List.length o))+(List.length ls)):Nat):Int) - (zUC.i y6:Int)))/\TV.v (iZ ((2*(List.length o:Int))+1))=TV.v (iZ ((((((2*(List.length o))+(List.length ls)):Nat):Int) - (zUC.i y6:Int))+1))/\TV.v (iZ (List.length (lsV ls):Int))=TV.v (iZ (zUC.i y6:Int))/\zA6.Le y6.1 y'5.1)/\(∀ y'7:zUC,((Rd y'7)->((zUC.v y'7=AV.nilslice/\Bd0 32 2/\Q (AV.tuple [AV.rslice (zA6.next y'7.1) 0 2,iZ 0]) (zA6.new y'7.1 (zA5.cells [iZ ((((2*(List.length o))+(List.length ls)):Nat):Int),iZ 0,iZ (((((2*(List.length o))+(List.length ls)):Nat):Int)+1),iZ (-1)] 119 2 true)))\/∃ x8:RS,zUC.v y'7=AV.rslice (RS.id x8) 0 (RS.n x8)/\∃ a9:OE,zA6.objs y'7.1 (RS.id x8)=zA5.cells (OE.cs a9) 119 2 (OE.g a9)/\((0:Nat)=0/\Bd ((RS.n x8)+2) 16/\(((RS.n x8)*2):Nat)<=List.length (OE.cs a9))/\Q (AV.tuple [AV.rslice (zA6.next y'7.1) 0 ((RS.n x8)+2),iZ 0]) (zA6.new (zA6.set y'7.1 (RS.id x8) zA5.dead) (zA5.cells ((List.take ((RS.n x8)*2) (OE.cs a9))++[iZ ((((2*(List.length o))+(List.length ls)):Nat):Int),iZ 0,iZ (((((2*(List.length o))+(List.length ls)):Nat):Int)+1),iZ (-1)]) 119 2 true)))))))))))):=by kernel_rfl
def C38:zJC:=fun args σ K=>∃ (ls:List (List T)) (o:List Int),args=[.slice 1 (lsV ls) .any,.slice 1 (zP9 o) .any]/\((OkB ls/\o.length<=1099511627776)/\K (.tuple [.slice 2 (zZF (zaC ls o).2) .any,iZ (zaC ls o).1]) σ.untok)
end Go.V
namespace Go.V
open Go Go.Proofs

theorem nodeR_s {t:T} (h:zNV t=true):t.s.size<=255:=by
 have e0:zAI t.s ⟨⟨[]⟩⟩=true->t.s.size<=255:=fun h=>by rw [zRD.1 h]; exact Nat.zero_le _
 have e1:zNS t.s=true->t.s.size<=255:=fun h=>by
  unfold zNS at h
  simp only [Bool.and_eq_true,decide_eq_true_eq] at h
  omega
 unfold zNV at h
 repeat' split at h
 all_goals (try simp only [Bool.and_eq_true,decide_eq_true_eq] at h)
 ·exact e0 h.2.2.1
 ·exact e0 h.2.2.1
 ·exact e1 h.2.1
 ·omega
 ·exact e1 h.2.1
 ·exact e0 h.2.1
 ·cases h
mutual
theorem zeK:∀ t:T,zNW t=true->t.bulk<=256*t.size
 | .mk k n s l,h=>by
  have h':=h
  rw [zOA,Bool.and_eq_true] at h'
  have hs:=nodeR_s h'.1
  have hl:=nodesRL_bulk l h'.2
  have hs:s.size<=255:=hs
  rw [T.bulk,T.size]; omega
theorem nodesRL_bulk:∀ l:List T,nodesRL l=true->bulkL l<=256*sizeL l
 | [],_=>by rw [bulkL,sizeL]; omega
 | x :: l,h=>by
  rw [nodesRL,Bool.and_eq_true] at h
  have h1:=zeK x h.1
  have h2:=nodesRL_bulk l h.2
  rw [bulkL,sizeL]; omega
end
theorem chk_bulk {t:T} (h:zND t=0):t.bulk<=1024000:=by
 have hs:=zQA h
 rw [za1] at h
 unfold isR at h
 simp only [Bool.and_eq_true] at h
 have:=zeK t h.2.2
 omega
theorem zeL:∀ (l:List T) (e:T),(zZC l e).bulk=2*l.length+bulkL l+e.bulk
 | [],e=>by rw [zZC,bulkL]; simp
 | x :: l,e=>by
  rw [zZC,T.bulk_eq]
  show 1+1+bulkL [x,zZC l e]=_
  rw [bulkL,bulkL,bulkL,zeL l e,bulkL,List.length_cons]
  omega
theorem zeM:∀ {l:List T},(∀ x∈l,zND x=0)->bulkL l<=1024000*l.length
 | [],_=>by rw [bulkL]; exact Nat.zero_le _
 | x :: l,h=>by
  have h1:=chk_bulk (h x List.mem_cons_self)
  have h2:=zeM (l:=l) fun y hy=>h y (List.mem_cons_of_mem _ hy)
  rw [bulkL,List.length_cons]; omega
theorem zeN (a b:List T):bulkL (a++b)=bulkL a+bulkL b:=by
 rw [zMO,zMO,zMO,List.map_append,List.sum_append]
theorem zeO:∀ {ls:List (List T)},(∀ l∈ls,l.length<=400/\∀ x∈l,zND x=0)->bulkL (zbA ls)<=409601000*ls.length
 | [],_=>Nat.zero_le _
 | l :: ls,h=>by
  have h1:=h l List.mem_cons_self
  have h2:=zeO (ls:=ls) fun y hy=>h y (List.mem_cons_of_mem _ hy)
  have h3:=zeM h1.2
  show bulkL (zZC l zYQ :: zbA ls)<=_
  rw [bulkL,zeL,List.length_cons]
  have:zYQ.bulk=3:=rfl
  omega
section
variable {B:Nat} {w0:World} {G:Nat->AV}
variable (hG:∀ i,zJV (G i))
include hG
theorem c80q_ok:zJD (EV B w0 G) 80 C80q:=by
 rintro args σ Q ⟨p,g,rfl,⟨hp,hg⟩,hQ⟩
 refine zDV.argsW (ys:=[zSI p,quV ⟨1,[g]⟩]) ?_ (.cons (.refl _) (.cons (qu_wk g) .nil))
 exact c80_ok hG _ _ _ ⟨p,⟨1,[g]⟩,rfl,⟨hp,by show 1<=_; omega,fun x hx=>by
  have hx:x∈[g]:=hx
  simp only [List.mem_cons,List.not_mem_nil,or_false] at hx
  subst hx; exact hg⟩,hQ⟩
theorem zeP:zIP (EV B w0 G) (H36 (EV B w0 G)):=zJJ (zKM B w0 G) (zJI (c63_ok hG) (zJI (c77_ok hG) (zJI (c76_ok hG) (zJI (zZ6 hG) (zJI (zdY hG) (zJI (c34_ok hG) (zJI (c80q_ok hG) zJH)))))))
theorem c36_ok:zJD (EV B w0 G) 36 C36:=by
 rintro args σ Q ⟨ls,rfl,hOk,hQ⟩
 have hll:=zQF ls
 refine zSL hG (fun v hv => ?_) (.tuple fun v hv => ?_) (fun Q hQ => ?_) hQ
 ·simp only [List.mem_cons,List.not_mem_nil,or_false] at hv
  subst hv; exact zQJ ls
 ·simp only [List.mem_cons,List.not_mem_nil,or_false] at hv
  rcases hv with rfl | rfl
  ·exact zWO _
  ·exact .int _ _
 have h1000:=hOk.1
 by_cases hE:zR2 ls=0
 rotate_left
 ·refine zKF (cuts:=[]) (zKM B w0 G) (zeP hG) (fun lp hl _ Q a' σ kk => ?_) ((vc36 B w0 G ls (fun _=>False) (fun _=>False) False Q).mpr ⟨ls,rfl,hOk,zE2 (fun h=>hQ _ _ ?_) (fun h=>absurd (by simpa using h) hE)⟩)
  ·obtain ⟨y,h,_⟩:=kk
   exact h.elim
  ·unfold za5
   rw [if_neg hE]
   exact Wk.tuple (.cons zbD (.cons (.refl _) .nil))
 unfold za5 at hQ
 rw [if_pos hE] at hQ
 obtain ⟨h8,hgr⟩:=zbF hE
 let No:Prop:=∃ l∈ls,l.length > 400
 have no:za4 ls=2->∀ σ',Q (.tuple [.agg [iZ 0,.nilslice],iZ 2]) σ':=fun h σ'=>by
  refine hQ _ _ ?_
  rw [h,if_neg (by omega)]
  exact Wk.tuple (.cons zbD (.cons (.refl _) .nil))
 have bad:No->za4 ls=2:=fun ⟨l,hl,he⟩=>za8 hl he
 let I:zUC->Prop:=fun y=>y.i<=ls.length/\zcL y.σ y.v (zbA (ls.take y.i))/\∀ l∈ls.take y.i,l.length<=400
 let R:zUC->Prop:=fun y=>zcL y.σ y.v (zbA ls)/\∀ l∈ls,l.length<=400
 have hpr:zbG ((ls.length:Nat):Int)=(0,zYV ls.length):=by unfold zbG; rw [if_neg (by omega),Int.toNat_natCast]
 have fin:∀ (l:List T) (σ1:zA6),l=zbA ls++[vZ 0]->bcase (((if zSH (zYV ls.length) { vars:=1,goals:=[zYS l] }=Bool.true then 0 else 5):Int) != 0)
   (Q (AV.tuple [(AV.agg [(iZ 0),AV.nilslice]),(iZ 2)]) σ1) (Q (AV.tuple [(AV.agg [(iZ 1),(AV.slice 4 [(AV.agg (tc (zYS l)))] Cap.full)]),(iZ 0)]) σ1):=by
  rintro l σ1 rfl
  have e:za4 ls=if zSH (zYV ls.length) { vars:=1,goals:=[zYS (zbA ls++[vZ 0])] }=true then 0 else 2:=rfl
  refine zE2 (fun h => ?_) (fun h => ?_)
  ·refine no ?_ _
   rw [e]
   split at h
   ·simp at h
   ·rename_i h2; rw [if_neg h2]
  ·have h2:za4 ls=0:=by
    rw [e]
    split at h
    ·rename_i h2; rw [if_pos h2]
    ·simp at h
   refine hQ _ _ ?_
   rw [h2,if_pos rfl]
   exact Wk.tuple (.cons (qu_wk _) (.cons (.refl _) .nil))
 have hbulk:(∀ l∈ls,l.length<=400)->zWP (zYS (zbA ls++[vZ 0])):=fun h=>by
  have:=zeO (ls:=ls) fun l hl=>⟨h l hl,fun x hx=>gr_chk (hgr l hl x hx)⟩
  show (zYS (zbA ls++[vZ 0])).bulk<=_
  rw [T.bulk_eq]
  show 1+5+bulkL (zbA ls++[vZ 0])<=_
  rw [zeN]
  have e1:bulkL [vZ 0]=1:=rfl
  omega
 refine zKF (cuts:=[]) (zKM B w0 G) (zeP hG) (fun lp hl _ Q a' σ kk => ?_) ((vc36 B w0 G ls I R No Q).mpr ⟨ls,rfl,hOk,zE2 (fun h=>by simp [hE] at h) (fun _=>⟨⟨zJZ.new (.cells [] 37 4 false),.rslice 0 0 0,0⟩,⟨Nat.zero_le _,.start,fun l hl=>by simp at hl⟩,⟨rfl,rfl,rfl,rfl,rfl,.refl _⟩,fun y' hy => ?_,fun h σ'=>no (bad h) σ'⟩)⟩)
 rotate_left
 ·obtain ⟨σy,v,i⟩:=y'
  obtain ⟨hy,h400⟩:zcL σy v (zbA ls)/\∀ l∈ls,l.length<=400:=hy
  have hb:=hbulk h400
  have hPB:=(zb9 h8).bulk
  rcases hy.untok with ⟨rfl,h0,h1⟩ | ⟨id,cs,g,rfl,hlt,ho,hcl,hcs⟩
  ·have hn:ls=[]:=by rw [zbC] at h0; exact List.length_eq_zero_iff.1 h0
   refine .inl ⟨rfl,0,rfl,⟨by omega,by omega⟩,[vZ 0],_,rfl,(ls.length:Int),by rw [hll],zYV ls.length,zYS [vZ 0],?_,⟨hPB,by rw [hn] at hb; exact hb⟩,?_⟩
   ·rw [hpr]; rfl
   ·exact fin [vZ 0] _ (by rw [hn]; rfl)
  ·have hal:=zbC ls
   have ec:cs.take ((zbA ls).length*4)++tc (vZ 0)=zA0 (tcellL (zbA ls++[vZ 0])):=by rw [hcs,zP8]
   refine .inr ⟨⟨id,(zbA ls).length⟩,rfl,0,rfl,⟨cs,g⟩,ho,⟨rfl,⟨by show ((zbA ls).length+1)*56<=_; omega,by show (zbA ls).length+1<=_; omega⟩,hcl⟩,⟨cs.take ((zbA ls).length*4)++tc (vZ 0),true⟩,?_,?_,zbA ls++[vZ 0],.tok σy.next,?_,(ls.length:Int),by rw [hll],zYV ls.length,zYS (zbA ls++[vZ 0]),?_,⟨hPB,hb⟩,?_⟩
   ·exact zA6.new_objs (zA6.set (zA6.untok σy) id .dead) _
   ·show (cs.take ((zbA ls).length*4)++tc (vZ 0)).length=_
    rw [ec,zNP,List.length_append]; rfl
   ·show [AV.slice 4 (zAH (some 4) (cs.take ((zbA ls).length*4)++tc (vZ 0)) ((zbA ls).length+1)) _]=_
    have e1:zAH (some 4) (cs.take ((zbA ls).length*4)++tc (vZ 0)) ((zbA ls).length+1)=tcellL (zbA ls++[vZ 0]):=by
     have:=zP7 (zbA ls++[vZ 0])
     rw [List.length_append] at this
     rw [ec]; exact this
    rw [e1]
   ·rw [hpr]; rfl
   ·exact fin _ _ rfl
 change lp∈zKE Tryz.prog [] 36 at hl
 rw [zeF] at hl
 simp only [List.mem_cons,List.not_mem_nil,or_false] at hl
 subst hl
 obtain ⟨y0,hI0,hat,hR1,hR2⟩:=kk
 refine zK5 (zeE ls I No) (x0:=y0) (fun y hI => ?_) (fun y hI e a' σ hne kk => ?_) hI0 hat
 ·obtain ⟨σy,v,i⟩:=y
  obtain ⟨hi,hO,h4⟩:=hI
  change i<=ls.length at hi
  change zcL σy v (zbA (ls.take i)) at hO
  change ∀ l∈ls.take i,l.length<=400 at h4
  refine zP3 (zeP hG) (zKM B w0 G) (by kernel_rfl) ((vc36l B w0 G ls I No σy v i).mpr (zE2 (fun h => ?_) (fun h=>⟨fun h2 => ?_,rfl,rfl,rfl,rfl,.refl _⟩)))
  ·have h:=of_decide_eq_true h
   rw [hll] at h
   have h:(i:Int)<(ls.length:Int):=h
   have hk:i<ls.length:=by omega
   have hm:=List.getElem_mem hk
   have hb:(0:Int)<=(i:Int)/\(i:Int)<((lsV ls).length:Int):=⟨by omega,by rw [hll]; exact h⟩
   have hg:AV.vptr (AV.cells (List.getD (lsV ls) (Int.toNat (i:Int)) AV.undef)) = .vptr [slV ls[i]]:=by rw [Int.toNat_natCast,zQG hk]; rfl
   refine ⟨hb,ls[i],hg,zE2 (fun he=>⟨⟨_,hm,by have:=of_decide_eq_true he; rw [zMH] at this; omega⟩,rfl,rfl,rfl,trivial⟩) (fun he => ?_)⟩
   have he:ls[i].length<=400:=by have:=of_decide_eq_false he; rw [zMH] at this; omega
   have hs:=zbB hk
   have hl:=zbC (ls.take i)
   rw [List.length_take,Nat.min_eq_left hi] at hl
   have hμ:ls.length - (i+1)<ls.length - i:=by omega
   have hn:=congrArg (fun z=>TV.v (iZ z)) (wI1 hk (by omega))
   have h4':∀ l∈ls.take (i+1),l.length<=400:=fun l hl=>by
    rw [List.take_succ_eq_append_getElem hk] at hl
    rcases List.mem_append.1 hl with hl | hl
    ·exact h4 l hl
    ·obtain rfl:l=ls[i]:=by simpa using hl
     exact he
   rcases hO.untok.untok.cases with ⟨rfl,hx⟩ | ⟨id,cs,g,rfl,ho,hcl,hx⟩
   ·exact .inl ⟨rfl,hb,ls[i],hg,_,rfl,.inl ⟨rfl,rfl⟩,rfl,rfl,⟨hb,ls[i],hg,rfl⟩,rfl,ls[i],zYQ,rfl,by omega,.inl ⟨rfl,rfl⟩,⟨by omega,by omega⟩,⟨_,.rslice σy.next 0 1,i+1⟩,⟨⟨hk,by show zcL _ _ (zbA (ls.take (i+1))); rw [hs]; exact hx _,h4'⟩,hμ⟩,rfl,rfl,rfl,hn,rfl,.refl _⟩
   ·exact .inr ⟨⟨id,(zbA (ls.take i)).length⟩,rfl,hb,ls[i],hg,_,rfl,.inr ⟨⟨id,(zbA (ls.take i)).length⟩,rfl,rfl⟩,rfl,rfl,⟨hb,ls[i],hg,rfl⟩,rfl,ls[i],zYQ,rfl,by omega,.inr ⟨⟨id,(zbA (ls.take i)).length⟩,rfl,rfl⟩,⟨cs,g⟩,ho,⟨rfl,⟨by show ((zbA (ls.take i)).length+1)*56<=_; omega,by show (zbA (ls.take i)).length+1<=_; omega⟩,hcl⟩,⟨_,.rslice σy.next 0 ((zbA (ls.take i)).length+1),i+1⟩,⟨⟨hk,by show zcL _ _ (zbA (ls.take (i+1))); rw [hs]; exact hx _,h4'⟩,hμ⟩,rfl,rfl,rfl,hn,rfl,.refl _⟩
  ·have h:=of_decide_eq_false h
   rw [hll] at h
   have h2:i<ls.length:=h2
   exact h (by show (i:Int)<_; omega)
 ·obtain ⟨σy,v,i⟩:=y
  obtain ⟨hi,hO,h4⟩:=hI
  change i<=ls.length at hi
  change zcL σy v (zbA (ls.take i)) at hO
  change ∀ l∈ls.take i,l.length<=400 at h4
  cases e with
  | exit j =>
   match j,kk with
   | 0,kk =>
    obtain ⟨hk,hat⟩:=kk
    have hk:¬ i<ls.length:=hk
    rw [show i=ls.length by omega,List.take_length] at hO h4
    exact ⟨_,_,(zJM hat).1,(zJM hat).2,hR1 ⟨σy,v,i⟩ ⟨hO,h4⟩⟩
  | ret=>exact ⟨_,_,(zJM kk.2).1,.refl _,hR2 kk.1 _⟩
  | normal=>exact absurd rfl hne
  | _=>exact kk.elim
omit hG in
theorem loop38a {ls:List (List T)} {o:List Int} {lp:Code} (hlp:lp = .loop (lB 38 0)) (ho:o.length<=1099511627776) {Q:zDW} {a:zDN} {σ:zA6}
  (k:T38a ls o (fun y=>y.i<=o.length/\OutM y.σ y.v (za9 0 (o.take y.i))) (fun y=>OutM y.σ y.v (za9 0 o)) lp Q a σ):AWp (EV B w0 G) none (zJ8 Tryz.prog 38) lp Q a σ:=by
 subst hlp
 obtain ⟨y0,hI0,hat,hR⟩:=k
 refine zK5 (zeG ls o (fun y=>y.i<=o.length/\OutM y.σ y.v (za9 0 (o.take y.i)))) (x0:=y0) (fun y hI => ?_) (fun y hI e a' σ hne kk => ?_) hI0 hat
 ·obtain ⟨σy,v,i⟩:=y
  obtain ⟨hi,hO⟩:=hI
  change i<=o.length at hi
  change OutM σy v (za9 0 (o.take i)) at hO
  unfold OutM at hO
  rw [zaF,List.length_take,Nat.min_eq_left hi] at hO
  refine zP3 zMZ (zKM B w0 G) (by kernel_rfl) ((vc38a B w0 G ls o _ σy v i).mpr (zE2 (fun h => ?_) (fun h=>⟨fun h2 => ?_,rfl,rfl,rfl,rfl,.refl _⟩)))
  ·have h:=of_decide_eq_true h
   rw [zPA] at h
   have h:(i:Int)<(o.length:Int):=h
   have hi2:i<o.length:=by omega
   have w1:IntKind.wrap .i64 (2*(i:Int)+1+1)=2*((i+1:Nat):Int):=by rw [zN8 (by omega) (by omega)]; omega
   have w2:IntKind.wrap .i64 (2*(i:Int)+1+2)=2*((i+1:Nat):Int)+1:=by rw [zN8 (by omega) (by omega)]; omega
   have e0:(2*(i:Int))=((2*i:Nat):Int):=by omega
   have ec:([iZ (2*(i:Int)),iZ o[i],iZ (2*(i:Int)+1),iZ (-1)]:List AV)=zA0 (zZF [(((2*i:Nat):Int),o[i]),(((2*i:Nat):Int)+1,-1)]):=by rw [e0]; rfl
   have hstep:∀ (σ1:zA6) (v1:AV),zaI 119 2 σ1 v1 (2*i+2) (zA0 (zZF (za9 0 (o.take i)))++[iZ (2*(i:Int)),iZ o[i],iZ (2*(i:Int)+1),iZ (-1)])->OutM σ1 v1 (za9 0 (o.take (i+1))):=fun σ1 v1 h=>by
    unfold OutM
    rw [zaF,zaE hi2,zbN,<-ec,List.length_take,Nat.min_eq_left (by omega),show 2*(i+1)=2*i+2 by omega]
    exact h
   have hb:(0:Int)<=(i:Int)/\(i:Int)<((zP9 o).length:Int):=⟨by omega,by rw [zPA]; exact h⟩
   have hg:AV.vptr (AV.cells (List.getD (zP9 o) (Int.toNat (i:Int)) AV.undef)) = .vptr [iZ o[i]]:=by rw [Int.toNat_natCast]; exact zPB hi2
   have hμ:o.length - (i+1)<o.length - i:=by omega
   have hw1:=congrArg (fun z=>TV.v (iZ z)) w1
   have hw2:=congrArg (fun z=>TV.v (iZ z)) w2
   have hw3:=congrArg (fun z=>TV.v (iZ z)) (wI1 hi2 (by omega))
   rcases hO with ⟨rfl,h0,h1⟩ | ⟨id,cs,g,rfl,hlt,hob,hcl,hcs⟩
   ·refine .inl ⟨rfl,hb,o[i],hg,⟨by omega,by omega⟩,⟨_,.rslice σy.next 0 2,i+1⟩,⟨⟨hi2,hstep _ _ ?_⟩,hμ⟩,rfl,rfl,rfl,hw1,hw2,hw3,.refl _⟩
    have:=zaI.first (tid:=119) (sz:=2) (k:=2) (σ:=σy) (new:=[iZ (2*(i:Int)),iZ o[i],iZ (2*(i:Int)+1),iZ (-1)]) h0 h1 rfl
    exact this
   ·refine .inr ⟨⟨id,2*i⟩,rfl,hb,o[i],hg,⟨cs,g⟩,hob,⟨rfl,⟨by show (2*i+2)*16<=_; omega,by show 2*i+2<=_; omega⟩,hcl⟩,⟨_,.rslice σy.next 0 (2*i+2),i+1⟩,⟨⟨hi2,hstep _ _ ?_⟩,hμ⟩,rfl,rfl,rfl,hw1,hw2,hw3,.refl _⟩
    exact zaI.more (k:=2) hcl hcs rfl
  ·have h:=of_decide_eq_false h
   rw [zPA] at h
   have h2:i<o.length:=h2
   exact h (by show (i:Int)<_; omega)
 ·obtain ⟨σy,v,i⟩:=y
  obtain ⟨hi,hO⟩:=hI
  change i<=o.length at hi
  change OutM σy v (za9 0 (o.take i)) at hO
  cases e with
  | exit j =>
   match j,kk with
   | 0,kk =>
    obtain ⟨hk,hat⟩:=kk
    have hk:¬ i<o.length:=hk
    have hio:i=o.length:=by omega
    subst hio
    rw [List.take_length] at hO
    exact ⟨_,_,(zJM hat).1,(zJM hat).2,hR ⟨σy,v,o.length⟩ hO⟩
  | normal=>exact absurd rfl hne
  | _=>exact kk.elim
omit hG in
theorem loop38b {m n:Nat} {pre:List (Int×Int)} {lp:Code} (hlp:lp = .loop (lB 38 1)) (hm:m<=3000000000000) (hn:n<=1000000) (hpl:pre.length=m) {Q:zDW} {a:zDN} {σ:zA6}
  (k:T38b m n (fun y=>y.i<=n/\OutM y.σ y.v (pre++zbQ m n y.i)) (fun y=>OutM y.σ y.v (pre++zaA m n)) lp Q a σ):AWp (EV B w0 G) none (zJ8 Tryz.prog 38) lp Q a σ:=by
 subst hlp
 obtain ⟨y0,hI0,hat,hR⟩:=k
 refine zK5 (zeJ m n (fun y=>y.i<=n/\OutM y.σ y.v (pre++zbQ m n y.i))) (x0:=y0) (fun y hI => ?_) (fun y hI e a' σ hne kk => ?_) hI0 hat
 ·obtain ⟨σy,v,i⟩:=y
  obtain ⟨hi,hO⟩:=hI
  change i<=n at hi
  change OutM σy v (pre++zbQ m n i) at hO
  unfold OutM at hO
  rw [List.length_append,zbU hi] at hO
  refine zP3 zMZ (zKM B w0 G) (by kernel_rfl) ((vc38b B w0 G m n _ σy v i).mpr (zE2 (fun h => ?_) (fun h=>⟨?_,rfl,rfl,rfl,.refl _⟩)))
  ·have h:(i:Int) > 0:=of_decide_eq_true h
   obtain ⟨k,rfl⟩:∃ k,i=k+1:=⟨i - 1,by omega⟩
   have e0:(((m+n:Nat):Int) - ((k+1:Nat):Int))=((m+(n - (k+1)):Nat):Int):=by omega
   have w0':(((m+n:Nat):Int) - ((k+1:Nat):Int)+1)=((m+n:Nat):Int) - (k:Int):=by omega
   have w1:IntKind.wrap .i64 (((m+n:Nat):Int) - ((k+1:Nat):Int)+1+1)=((m+n:Nat):Int) - (k:Int)+1:=by rw [zN8 (by omega) (by omega)]; omega
   have w2:IntKind.wrap .i64 (((k+1:Nat):Int) - 1)=(k:Int):=by rw [zN8 (by omega) (by omega)]; omega
   have ec:([iZ (((m+n:Nat):Int) - ((k+1:Nat):Int)),iZ ((k+1:Nat):Int)]:List AV)=zA0 (zZF [(((m+(n - (k+1)):Nat):Int),((k+1:Nat):Int))]):=by rw [e0]; rfl
   have hstep:∀ (σ1:zA6) (v1:AV),zaI 119 2 σ1 v1 (pre.length+(n - (k+1))+1) (zA0 (zZF (pre++zbQ m n (k+1)))++[iZ (((m+n:Nat):Int) - ((k+1:Nat):Int)),iZ ((k+1:Nat):Int)])->OutM σ1 v1 (pre++zbQ m n k):=fun σ1 v1 h=>by
    unfold OutM
    rw [zbR hi,<-List.append_assoc,zbN,<-ec,List.length_append,List.length_append,zbU hi]
    exact h
   have hw0:=congrArg (fun z=>TV.v (iZ z)) w0'
   have hw1:=congrArg (fun z=>TV.v (iZ z)) w1
   have hw2:=congrArg (fun z=>TV.v (iZ z)) w2
   have hμ:k<k+1:=by omega
   rcases hO with ⟨rfl,h0,h1⟩ | ⟨id,cs,g,rfl,hlt,hob,hcl,hcs⟩
   ·refine .inl ⟨rfl,⟨by omega,by omega⟩,⟨_,.rslice σy.next 0 1,k⟩,⟨⟨by show k<=n; omega,hstep _ _ ?_⟩,hμ⟩,rfl,hw0,hw1,hw2,.refl _⟩
    have:=zaI.first (tid:=119) (sz:=2) (k:=1) (σ:=σy) (new:=[iZ (((m+n:Nat):Int) - ((k+1:Nat):Int)),iZ ((k+1:Nat):Int)]) h0 h1 rfl
    rw [h0] at this ⊢
    exact this
   ·refine .inr ⟨⟨id,pre.length+(n - (k+1))⟩,rfl,⟨cs,g⟩,hob,⟨rfl,⟨by show (pre.length+(n - (k+1))+1)*16<=_; omega,by show pre.length+(n - (k+1))+1<=_; omega⟩,hcl⟩,⟨_,.rslice σy.next 0 (pre.length+(n - (k+1))+1),k⟩,⟨⟨by show k<=n; omega,hstep _ _ ?_⟩,hμ⟩,rfl,hw0,hw1,hw2,.refl _⟩
    exact zaI.more (k:=1) hcl hcs rfl
  ·have h:¬ (i:Int) > 0:=of_decide_eq_false h
   show i=0
   omega
 ·obtain ⟨σy,v,i⟩:=y
  obtain ⟨hi,hO⟩:=hI
  change i<=n at hi
  change OutM σy v (pre++zbQ m n i) at hO
  cases e with
  | exit j =>
   match j,kk with
   | 2,kk =>
    obtain ⟨hk,hat⟩:=kk
    have hk:i=0:=hk
    subst hk
    rw [zbS] at hO
    refine ⟨_,_,(zJM hat).1,(zJM hat).2,?_⟩
    have:=hR ⟨σy,v,0⟩ hO
    rw [show (((m+n:Nat):Int) - (((zUC.mk σy v 0).i:Nat):Int))=((m+n:Nat):Int) by show _ - ((0:Nat):Int)=_; omega]
    exact this
  | normal=>exact absurd rfl hne
  | _=>exact kk.elim
theorem c38_ok:zJD (EV B w0 G) 38 C38:=by
 rintro args σ Q ⟨ls,o,rfl,⟨hOk,ho⟩,hQ⟩
 have hll:=zQF ls
 have hl:ls.length<=1000000:=by have:=hOk.1; omega
 refine zDV.pureD 4 hG (Q0:=RetM (zaC ls o)) (fun v hv => ?_) ?_ (fun v σ' k => ?_)
 ·simp only [List.mem_cons,List.not_mem_nil,or_false] at hv
  rcases hv with rfl | rfl
  ·exact zQJ ls
  ·exact zPC o
 rotate_left
 ·obtain ⟨v',h1,h2⟩:=k.out
  exact ⟨v',_,h1,h2,zc6 _ _,hQ⟩
 refine zKF (cuts:=[]) (zKM B w0 G) (zJJ (zKM B w0 G) (zJI (c63_ok hG) (zJI (c81_ok hG) (zJI (c36_ok hG) zJH)))) (fun lp hl2 _ Q a' σ kk => ?_) ((vc38 B w0 G ls o
  (fun y=>y.i<=o.length/\OutM y.σ y.v (za9 0 (o.take y.i))) (fun y=>OutM y.σ y.v (za9 0 o)) (fun y=>y.i<=ls.length/\OutM y.σ y.v (za9 0 o++zbQ (2*o.length) ls.length y.i)) (fun y=>OutM y.σ y.v (za9 0 o++zaA (2*o.length) ls.length)) _).mpr ?_)
 ·change lp∈zKE Tryz.prog [] 38 at hl2
  rw [zeH] at hl2
  simp only [List.mem_cons,List.not_mem_nil,or_false] at hl2
  let PP:Code->zDW->zDN->zA6->Prop:=fun c Q a σ=>AWp (EV B w0 G) none (zJ8 Tryz.prog 38) c Q a σ
  rcases hl2 with h0 | h0
  ·exact zKL (P:=PP) kk (fun _ k=>loop38a h0 ho k) (fun k=>zKL (P:=PP) k (fun h k=>by rw [h0,zeI.1] at h; cases h) (fun k=>k.elim))
  ·exact zKL (P:=PP) kk (fun h k=>by rw [h0,zeI.2] at h; cases h) (fun k=>zKL (P:=PP) k (fun _ k=>loop38b h0 (by omega) hl (zaF 0 o) k) (fun k=>k.elim))
 ·refine ⟨ls,rfl,hOk,zE2 (fun h => .inl ⟨zR2 ls,by unfold zaC; rw [if_pos (by simpa using h)],rfl⟩) (fun hE0=>have hE:zR2 ls=0:=by simpa using hE0
   ⟨ls,o,rfl,⟨hl,ho,fun l hl=>(hOk.2 l hl).1⟩,zE2 (fun h => .inl ⟨1,?_,rfl⟩) (fun hord0=>have hord:zZN ls o=true:=by simpa using hord0
    ⟨ls,rfl,hOk,?_⟩)⟩)⟩
  ·have h:zZN ls o=false:=by simpa using h
   unfold zaC
   rw [if_neg (by simp [hE]),if_pos h]
  have eq1:(za5 ls).1=za4 ls:=by unfold za5; rw [if_pos hE]
  rw [eq1]
  refine zE2 (fun h => .inl ⟨za4 ls,?_,rfl⟩) (fun h => ?_)
  ·have h:za4 ls≠0:=by simpa using h
   unfold zaC
   rw [if_neg (by simp [hE]),if_neg (by simp [hord]),if_pos h]
  ·have h:za4 ls=0:=by simpa using h
   have hmv:=zc7 ls o hE hord h
   refine ⟨⟨zJZ.new (.cells [] 119 2 false),.rslice 0 0 0,0⟩,⟨Nat.zero_le _,.inr ⟨0,[],false,rfl,Nat.lt_succ_self _,rfl,Nat.zero_le _,rfl⟩⟩,⟨rfl,rfl,rfl,rfl,rfl,rfl,.refl _⟩,fun y' hy=>⟨⟨y'.σ,y'.v,ls.length⟩,⟨Nat.le_refl _,?_⟩,⟨rfl,?_,?_,by rw [hll],.refl _⟩,fun y9 hy9 => ?_⟩⟩
   ·show OutM y'.σ y'.v (za9 0 o++zbQ (2*o.length) ls.length ls.length)
    rw [zbT,List.append_nil]; exact hy
   ·exact congrArg (fun z=>TV.v (iZ z)) (by show 2*(o.length:Int)=((2*o.length+ls.length:Nat):Int) - (ls.length:Int); omega)
   ·exact congrArg (fun z=>TV.v (iZ z)) (by show 2*(o.length:Int)+1=((2*o.length+ls.length:Nat):Int) - (ls.length:Int)+1; omega)
   ·obtain ⟨σ9,v9,i9⟩:=y9
    have hy9:OutM σ9 v9 (za9 0 o++zaA (2*o.length) ls.length):=hy9
    have hlast:=hy9.last ho hl
    have hlen:(za9 0 o++zaA (2*o.length) ls.length).length=2*o.length+ls.length:=by rw [List.length_append,zaF,zaG]
    have w1:IntKind.wrap .i64 (((2*o.length+ls.length:Nat):Int)+1)=((2*o.length+ls.length:Nat):Int)+1:=by rw [zN8 (by omega) (by omega)]
    rw [w1] at hlast
    unfold OutM at hy9
    rw [hlen] at hy9
    rcases hy9 with ⟨rfl,h0,h1⟩ | ⟨id,cs,g,rfl,hlt,hob,hcl,hcs⟩
    ·exact .inl ⟨rfl,⟨by omega,by omega⟩,.inr ⟨_,_,hmv,rfl,hlast.1 rfl⟩⟩
    ·exact .inr ⟨⟨id,2*o.length+ls.length⟩,rfl,⟨cs,g⟩,hob,⟨rfl,⟨by show (2*o.length+ls.length+2)*16<=_; omega,by show 2*o.length+ls.length+2<=_; omega⟩,hcl⟩,.inr ⟨_,_,hmv,rfl,hlast.2 id cs g rfl hcl hcs⟩⟩
end
end Go.V
namespace Go.V
open Go Go.Proofs
variable (B:Nat) (w0:World) (G:Nat->AV)
def H8 (E:Env):zDY:=hnd E zHI zMU [(16,C16),(25,C25g),(34,C34),(26,C26g),(17,C17),(35,C35),(36,C36),(37,C37),(38,C38),(39,C39),(40,C40)]
theorem vc8 (n:Int) (ls:List (List T)) (o:List Int) (Q:AV->zA6->Prop):(zKD [] (EV B w0 G) (H8 (EV B w0 G)) nL zHI zMV 8 [iZ n,.slice 1 (lsV ls) .any,.slice 1 (zP9 o) .any] zJZ Q) =
 (([]:List AV)=[]/\∃ n0:Int,[iZ n]=[iZ n0]/\∃ n1:Int,[iZ n]=[iZ n1]/\bcase (((Prod.fst (zbG n0)):Int) != (Prod.fst (zbG n1)))
 (Q (AV.bool false) (Ut (Ut (Ut zJZ))))
 (∃ p2:List Pr,[AV.agg [AV.slice 3 (List.map prV (Prod.snd (zbG n0))) Cap.any],AV.agg [AV.slice 3 (List.map prV (Prod.snd (zbG n1))) Cap.any]]=[AV.agg [AV.slice 3 (List.map prV p2) Cap.any],AV.agg [AV.slice 3 (List.map prV p2) Cap.any]]/\FitP p2/\∃ ls3:List (List T),[AV.slice 1 (lsV ls) Cap.any]=[AV.slice 1 (lsV ls3) Cap.any]/\(zQB ls3<=1099511627776/\List.length ls3<=1099511627776)/\bcase (!(zQO ls3))
 (Q (AV.bool true) (Ut (Ut (Ut (Ut (Ut zJZ))))))
 (∃ ls4:List (List T),[AV.slice 1 (lsV ls) Cap.any]=[AV.slice 1 (lsV ls4) Cap.any]/\(List.length ls4<=1000000/\(∀ l5:List T,((l5∈ls4)->(List.length l5<=1000000))))/\∃ ls5:List (List T),[AV.slice 1 (lsV ls) Cap.any]=[AV.slice 1 (lsV ls5) Cap.any]/\(List.length ls5<=1000/\(∀ l6:List T,((l6∈ls5)->(List.length l6<=1000000/\(∀ x7:T,((x7∈l6)->(T.bulk x7<=1099511627776)))))))/\∃ ls6:List (List T),∃ o7:List Int,[AV.slice 1 (lsV ls) Cap.any,AV.slice 1 (zP9 o) Cap.any]=[AV.slice 1 (lsV ls6) Cap.any,AV.slice 1 (zP9 o7) Cap.any]/\((List.length ls6<=1000000/\(∀ l8:List T,((l8∈ls6)->(List.length l8<=1000000))))/\List.length o7<=1099511627776)/\∃ ls8:List (List T),∃ o9:List Int,[AV.slice 1 (lsV ls) Cap.any,AV.slice 1 (zP9 o) Cap.any]=[AV.slice 1 (lsV ls8) Cap.any,AV.slice 1 (zP9 o9) Cap.any]/\((List.length ls8<=1000/\(∀ l10:List T,((l10∈ls8)->(List.length l10<=1000000/\(∀ x11:T,((x11∈l10)->(T.bulk x11<=1099511627776)))))))/\List.length o9<=1099511627776)/\bcase (((Prod.fst (za5 ls4)):Int)==(Prod.fst (za5 ls5)))
 (∃ q10:Qu,[AV.agg [iZ (Qu.vars (Prod.snd (za5 ls4))),sT (Qu.goals (Prod.snd (za5 ls4)))],AV.agg [iZ (Qu.vars (Prod.snd (za5 ls5))),sT (Qu.goals (Prod.snd (za5 ls5)))]]=[AV.agg [iZ (Qu.vars q10),sT (Qu.goals q10)],AV.agg [iZ (Qu.vars q10),sT (Qu.goals q10)]]/\(List.length (Qu.goals q10)<=1000000/\(∀ x11:T,((x11∈Qu.goals q10)->(T.small x11))))/\bcase (((Prod.fst (zaC ls6 o7)):Int)==(Prod.fst (zaC ls8 o9)))
 (∃ l11:List (Int×Int),[AV.slice 2 (zZF (Prod.snd (zaC ls6 o7))) Cap.any,AV.slice 2 (zZF (Prod.snd (zaC ls8 o9))) Cap.any]=[AV.slice 2 (zZF l11) Cap.any,AV.slice 2 (zZF l11) Cap.any]/\List.length l11<=3000000000000/\Q (AV.bool true) (Ut (Ut (Ut (Ut (Ut (Ut (Ut (Ut (Ut (Ut (Ut zJZ))))))))))))
 (Q (AV.bool false) (Ut (Ut (Ut (Ut (Ut (Ut (Ut (Ut (Ut (Ut zJZ))))))))))))
 (Q (AV.bool false) (Ut (Ut (Ut (Ut (Ut (Ut (Ut (Ut (Ut zJZ))))))))))))):=by kernel_rfl
end Go.V
namespace Go.V
open Go Go.Proofs

theorem zeQ (ls:List (List T)):(za5 ls).2.goals.length<=1000000/\∀ x∈(za5 ls).2.goals,x.small:=by
 have hz:quZ.goals.length<=1000000/\∀ x∈quZ.goals,x.small:=⟨Nat.zero_le _,fun x hx=>by cases hx⟩
 unfold za5
 split
 ·split
  ·rename_i h
   unfold za4 at h
   have h:zSH (zYV ls.length) (quN ls)=true:=by
    cases e:zSH (zYV ls.length) (quN ls) with
    | true=>rfl
    | false=>rw [e] at h; simp at h
   unfold zSH zSG at h
   simp only [Bool.and_eq_true,decide_eq_true_eq] at h
   obtain ⟨_,⟨⟨_,h1,h2⟩,_⟩,_⟩:=h
   exact ⟨by show 1<=_; omega,fun x hx=>zNO ((zT6.1 h1).1 x hx)⟩
  ·exact hz
 ·exact hz
theorem zeR (ls:List (List T)) (o:List Int) (hl:ls.length<=1000000) (ho:o.length<=1099511627776):(zaC ls o).2.length<=3000000000000:=by
 unfold zaC
 repeat' split
 ·exact Nat.zero_le _
 ·exact Nat.zero_le _
 ·exact Nat.zero_le _
 ·show (zaB ls.length o).length<=_
  unfold zaB
  rw [List.length_append,List.length_append,zaF,zaG]
  show 2*o.length+ls.length+2<=_
  omega
theorem zeS (n:Int):FitP (zbG n).2:=by
 unfold zbG
 split
 ·exact ⟨Nat.zero_le _,fun q hq=>by cases hq⟩
 ·exact (zb9 (by omega)).fit
section
variable {B:Nat} {w0:World}
theorem H8_ok:zIP (EV B w0 G1) (H8 (EV B w0 G1)):=zJJ (zKM B w0 G1) (zJI c16_ok (zJI (c25g_ok zc5) (zJI (c34_ok zLR) (zJI (c26g_ok zLR) (zJI (c17_ok zLR) (zJI (c35_ok zc5) (zJI (c36_ok zLR) (zJI c37_ok (zJI (c38_ok zLR) (zJI (c39_ok zLR) (zJI (c40_ok zLR) zJH)))))))))))
theorem zeT (n:Int) (ls:List (List T)) (o:List Int) (hb1:zQB ls<=1099511627776) (hb2:ls.length<=1099511627776) (hk1:∀ l∈ls,∀ x∈l,x.bulk<=1099511627776) (ho:o.length<=1099511627776) :
  zDV (EV B w0 G1) 8 [iZ n,.slice 1 (lsV ls) .any,.slice 1 (zP9 o) .any] zJZ (fun v σ'=>v = .bool true):=by
 refine zKF (cuts:=[]) (zKM B w0 G1) H8_ok (fun lp hl _ Q a' σ' kk=>kk.elim) ((vc8 B w0 G1 n ls o _).mpr ⟨rfl,n,rfl,n,rfl,zE2 (fun h=>by simp at h) (fun _=>⟨_,rfl,zeS n,ls,rfl,⟨hb1,hb2⟩,zE2 (fun h=>rfl) (fun h => ?_)⟩)⟩)
 have h:zQO ls=true:=by simpa using h
 unfold zQO at h
 rw [Bool.and_eq_true,decide_eq_true_eq,decide_eq_true_eq] at h
 have hlen:∀ l∈ls,l.length<=1000000:=fun l hl=>by have:=zQM hl; omega
 have hB:OkB ls:=⟨by omega,fun l hl=>⟨hlen l hl,hk1 l hl⟩⟩
 have hL:OkL ls:=⟨by omega,hlen⟩
 exact ⟨ls,rfl,hL,ls,rfl,hB,ls,o,rfl,⟨hL,ho⟩,ls,o,rfl,⟨hB,ho⟩,zE2 (fun _=>⟨_,rfl,zeQ ls,zE2 (fun _=>⟨_,rfl,zeR ls o (by omega) ho,rfl⟩) (fun h=>by simp at h)⟩) (fun h=>by simp at h)⟩
end
end Go.V
