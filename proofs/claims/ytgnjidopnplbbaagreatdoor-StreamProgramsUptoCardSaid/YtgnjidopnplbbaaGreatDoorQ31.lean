/- A part of the proof of the statement S8 (texts brought together and shortened by a program of this work). -/
import Derived.Test.YtgnjidopnplbbaaGreatDoorQ30
import Derived.Test.YtgnjidopnplbbaaGreatDoorQ22
set_option maxRecDepth 1000000
set_option linter.unusedVariables false
set_option linter.unusedSimpArgs false
set_option linter.unusedSectionVars false
namespace Go.V
open Go Go.Proofs

theorem zXB {t:T} (h:zRA t≠0):zRP t=true:=by
 cases e:zRP t with
 | true=>rfl
 | false =>
  unfold zRP at e
  unfold zRA at h
  rw [if_pos e] at h
  exact absurd rfl h
theorem zXC {t:T} (h:(zRC t).1=1):zRP (zRC t).2.2=true:=by
 have key:∀ (u:T) (p:Int),(zRB u p).1=1->zRP (zRB u p).2.2=true:=fun u p h=>by
  unfold zRB at h ⊢
  by_cases e:zRA u=0
  ·rw [if_pos e] at h; simp at h
  ·rw [if_neg e] at h ⊢
   exact zXB e
 unfold zRC at h ⊢
 split at h
 ·split at h
  ·simp at h
  ·rename_i h1 h2
   rw [if_pos h1,if_neg h2]; exact key _ _ h
 ·rename_i h1
  rw [if_neg h1]; exact key _ _ h
theorem okC_take {p:List Pr} {l:List T} {i:Nat} (h:i<l.length):okC p (l.take (i+1))=(okC p (l.take i)&&if (zRC l[i]).1=1 then zR9 (p.map Pr.sym) (zRC l[i]).2.2.s (zRC l[i]).2.2.l.length else true):=by
 unfold okC
 rw [zVB h,List.all_append]
 congr 1
 split <;> simp
theorem zXD {p:List Pr} {l:List T} {i:Nat} (h:okC p (l.take i)=false):okC p l=false:=by
 cases e:okC p l with
 | false=>rfl
 | true =>
  have e2:zSD l=zSD (l.take i)++zSD (l.drop i):=by
   unfold zSD
   rw [<-List.filterMap_append,List.take_append_drop]
  unfold okC at e h
  rw [e2,List.all_append,h] at e
  cases e
theorem symIn_pr {p:List Pr} {i:Nat} (h:i<p.length) (s:ByteArray) (n:Int):zR9 ((p.take (i+1)).map Pr.sym) s n=(zR9 ((p.take i).map Pr.sym) s n || (zAI p[i].name s&&(p[i].arity==n))):=by
 have h2:i<(p.map Pr.sym).length:=by rw [List.length_map]; exact h
 have:=zVS h2 s n
 rw [List.getElem_map,Bool.and_true] at this
 rw [List.map_take,List.map_take]
 exact this
theorem zWV.in_ {p:List Pr} {i:Nat} {s:ByteArray} {n:Int} (h:zWV p i s n):zR9 (p.map Pr.sym) s n=true:=by
 obtain ⟨q,h1,rfl,rfl⟩:=h.at_
 exact zVG (s:=q.sym) |>.2 (List.mem_map.2 ⟨q,List.mem_of_getElem? h1,rfl⟩)
theorem zXE {l:List T} (h:(tcellL l).isEmpty=true):l=[]:=by
 rw [zUL] at h; exact List.isEmpty_iff.1 h
theorem zUG.one {σ:zA6} {l:List T} (h:σ.objs 0 = .cells (zA0 (tcellL l)) 37 4 true):zUG σ (.rslice 0 0 (tcellL l).length) l :=
 .inr ⟨0,_,true,by rw [zMH],h,by rw [zNP]; exact Nat.le_refl _,zUH l⟩

section
variable {B:Nat} {w0:World} {G:Nat->AV}
variable (hG:∀ i,zJV (G i))
include hG
theorem zXF:zJD (EV B w0 G) 159 C159:=by
 rintro args σ Q ⟨c,rfl,⟨h1,h2,h3⟩,hQ⟩
 refine zDV.pureD (2*SizeOf.sizeOf c.all+3) hG (Q0:=fun v σ'=>zUG σ' v c.all) (fun v hv => ?_) ?_ (fun v σ' k => ?_)
 ·simp only [List.mem_cons,List.not_mem_nil,or_false] at hv
  subst hv; exact zUM c
 rotate_left
 ·obtain ⟨v',h1,h2⟩:=k.deep
  exact ⟨v',_,h1,h2,zQI _,hQ⟩
 have ea:∀ {a b d:List T},c.head=a->c.guard=b->c.body=d->c.all=a++b++d:=fun h1 h2 h3=>by unfold Cl.all; rw [h1,h2,h3]
 have ap:∀ {τ:zA6} {id:Nat} {cs:List AV} {a l:List T},cs.take (a.length*4)=zA0 (tcellL a)->zUG ((τ.set id .dead).new (.cells (cs.take (a.length*4)++zA0 (tcellL l)) 37 4 true)) (.rslice τ.next 0 (a.length+l.length)) (a++l):=fun h=>zUG.append h
 have r3:=zMH c.head
 have r4:=zMH c.guard
 have r5:=zMH c.body
 have fT:=zUH
 have hle:∀ l:List T,l.length*4<=(zA0 (tcellL l)).length:=fun l=>by rw [zNP]; exact Nat.le_refl _
 refine zKF (cuts:=[]) (zKM B w0 G) zMZ (fun lp hl _ Q a' σ' kk=>kk.elim) ((vc159 B w0 G c _).mpr ?_)
 rw [r3,r4,r5]
 refine zE2 (fun e1=>zE2 (fun e2=>zE2 (fun e3 => ?_) (fun e3=>⟨⟨by omega,by omega⟩,?_⟩)) (fun e2=>⟨⟨by omega,by omega⟩,zE2 (fun e3 => ?_) (fun e3=>⟨⟨_,true⟩,rfl,⟨rfl,⟨by omega,by omega⟩,hle _⟩,?_⟩)⟩))
  (fun e1=>⟨⟨by omega,by omega⟩,zE2 (fun e2=>zE2 (fun e3 => ?_) (fun e3=>⟨⟨_,true⟩,rfl,⟨rfl,⟨by omega,by omega⟩,hle _⟩,?_⟩)) (fun e2=>⟨⟨_,true⟩,rfl,⟨rfl,⟨by omega,by omega⟩,hle _⟩,zE2 (fun e3 => ?_) (fun e3=>⟨⟨_,true⟩,rfl,⟨rfl,⟨by omega,by omega⟩,?_⟩,?_⟩)⟩)⟩)
 ·rw [ea (zXE e1) (zXE e2) (zXE e3)]
  exact .inl ⟨rfl,rfl⟩
 ·rw [ea (zXE e1) (zXE e2) rfl,<-r5]
  exact zUG.one (zA6.new_objs _ _)
 ·rw [ea (zXE e1) rfl (zXE e3),List.nil_append,List.append_nil,<-r4]
  exact zUG.one (zA6.new_objs _ _)
 ·rw [ea (zXE e1) rfl rfl,List.nil_append]
  exact ap (fT _)
 ·rw [ea rfl (zXE e2) (zXE e3),List.append_nil,List.append_nil,<-r3]
  exact zUG.one (zA6.new_objs _ _)
 ·rw [ea rfl (zXE e2) rfl,List.append_nil]
  exact ap (fT _)
 ·rw [ea rfl rfl (zXE e3),List.append_nil]
  exact ap (fT _)
 ·show (c.head.length+c.guard.length)*4<=(List.take (c.head.length*4) (zA0 (tcellL c.head))++zA0 (tcellL c.guard)).length
  rw [fT,List.length_append,zNP,zNP]; omega
 ·have e:List.take (c.head.length*4) (zA0 (tcellL c.head))++zA0 (tcellL c.guard)=zA0 (tcellL (c.head++c.guard)):=by
   rw [fT,<-zC4]; congr 1; simp [zMG]
  have hl:c.head.length+c.guard.length=(c.head++c.guard).length:=by rw [List.length_append]
  have hall:c.all=(c.head++c.guard)++c.body:=rfl
  rw [hall]
  have e':List.take (c.head.length*4) (List.map AV.cells (tcellL c.head)).flatten++zA0 (tcellL c.guard)=zA0 (tcellL (c.head++c.guard)):=e
  dsimp only
  rw [e',hl]
  exact ap (fT _)
theorem c143_ok:zJD (EV B w0 G) 143 C143:=by
 rintro args σ Q ⟨t,rfl,hQ1,hQ2⟩
 have hn:∀ v∈([.agg (tc t)]:List AV),zJV v:=fun v hv=>by
  simp only [List.mem_cons,List.not_mem_nil,or_false] at hv
  subst hv; exact zMK t
 have ht:∀ (s:ByteArray) (n:Int) (b:Bool),zJV (.tuple [zRJ s n,.bool b]):=fun s n b => .tuple fun x hx=>by
  simp only [List.mem_cons,List.not_mem_nil,or_false] at hx
  rcases hx with rfl | rfl
  ·exact zRT hG _ _
  ·exact .bool _
 have hH:zIP (EV B w0 G) (hnd (EV B w0 G) zHI zMU [(142,C142),(171,C171)]):=zJJ (zKM B w0 G) (zJI (zVY hG) (zJI (zVV hG) zJH))
 by_cases hg:(zRC t).1=1
 ·refine zN1 hG hn (ht _ _ _) (fun Q hQ => ?_) (hQ1 hg)
  refine zKF (cuts:=[]) (zKM B w0 G) hH (fun lp hl _ Q a' σ' kk=>kk.elim) ((vc143 B w0 G t Q).mpr ⟨t,rfl,zE2 (fun h => ?_) (fun h=>⟨(zRC t).2.2,rfl,fun _=>hQ _,fun h => ?_⟩)⟩)
  ·rw [hg] at h; cases h
  ·rw [zXC hg] at h; cases h
 ·refine zN1 hG hn (ht _ _ _) (fun Q hQ => ?_) (hQ2 hg)
  refine zKF (cuts:=[]) (zKM B w0 G) hH (fun lp hl _ Q a' σ' kk=>kk.elim) ((vc143 B w0 G t Q).mpr ⟨t,rfl,zE2 (fun h=>hQ _) (fun h=>absurd (by simpa using h) hg)⟩)
theorem zXG:zJD (EV B w0 G) 144 C144:=by
 rintro args σ Q ⟨p,s,n,rfl,hlen,hQ1,hQ2⟩
 have fst:∀ i j,zWV p i s n->zWV p j s n->i=j:=fun i j h1 h2=>by
  have key:∀ i j,zWV p i s n->zWV p j s n->¬ i<j:=fun i j h1 h2 hlt=>by
   obtain ⟨q,hq,rfl,rfl⟩:=h1.at_
   have hm:q.sym∈(p.take j).map Pr.sym:=List.mem_map.2 ⟨q,List.mem_of_getElem? (i:=i) (by rw [List.getElem?_take_of_lt hlt]; exact hq),rfl⟩
   have:=zVG (s:=q.sym) |>.2 hm
   rw [show zR9 ((p.take j).map Pr.sym) q.sym.1 q.sym.2=false from h2.none] at this
   cases this
  have:=key i j h1 h2
  have:=key j i h2 h1
  omega
 refine zDV.pure hG (Q0:=fun u _=>(zR9 (p.map Pr.sym) s n=false/\u=iZ (-1))\/∃ i:Nat,zWV p i s n/\u=iZ (i:Int)) (fun v hv => ?_) ?_ (fun u σ' k => ?_)
 ·simp only [List.mem_cons,List.not_mem_nil,or_false] at hv
  rcases hv with rfl | rfl
  ·exact zWN p
  ·exact zRT hG _ _
 rotate_left
 ·rcases k with ⟨h,rfl⟩ | ⟨i,h,rfl⟩
  ·exact ⟨_,.refl _,.int _ _,hQ1 h⟩
  ·exact ⟨_,.refl _,.int _ _,hQ2 i h⟩
 refine zKF (cuts:=[]) (zKM B w0 G) zMZ (fun lp hl _ Q a' σ kk => ?_) ((vc144 B w0 G p s n _).mpr ⟨⟨rfl,rfl,rfl,rfl,rfl,.refl _⟩,fun h σ' => .inl ⟨h,rfl⟩,fun i h σ' => .inr ⟨i,h,rfl⟩⟩)
 change lp∈zKE Tryz.prog [] 144 at hl
 rw [zWX] at hl
 simp only [List.mem_cons,List.not_mem_nil,or_false] at hl
 subst hl
 obtain ⟨hat,hR1,hR2⟩:=kk
 refine zK5 (zWW p s n) (x0:=0) (fun i hI => ?_) (fun i hI e a' σ hne kk => ?_) ⟨Nat.zero_le _,rfl⟩ hat
 ·obtain ⟨hi,hg⟩:i<=p.length/\zR9 ((p.take i).map Pr.sym) s n=false:=hI
  refine zP3 zMZ (zKM B w0 G) (by kernel_rfl) ((vc144l B w0 G p s n i).mpr (zE2 (fun h => ?_) (fun h=>⟨fun h2 => ?_,trivial⟩)))
  ·have h:=of_decide_eq_true h
   rw [List.length_map] at h
   have hi2:i<p.length:=by omega
   have hst:=symIn_pr hi2 s n
   rw [hg,Bool.false_or] at hst
   have hr:(0:Int)<=(i:Int)/\(i:Int)<((p.map prV).length:Int):=⟨by omega,by rw [List.length_map]; omega⟩
   have hv:AV.vptr (AV.cells (List.getD (p.map prV) (Int.toNat (i:Int)) AV.undef)) = .vptr [.str p[i].name,iZ p[i].arity,.slice 5 (p[i].cls.map clV) .any]:=by rw [Int.toNat_natCast]; exact zWF hi2
   have w1:TV.v (iZ (IntKind.wrap .i64 ((i:Int)+1)))=TV.v (iZ ((i+1:Nat):Int)):=by rw [show ((i:Int)+1)=((i+1:Nat):Int) by omega,zN8 (by omega) (by omega)]
   have hμ:p.length - (i+1)<p.length - i:=by omega
   refine ⟨hr,p[i],hv,zE2 (fun h1=>⟨hr,p[i],hv,zE2 (fun h2=>⟨⟨⟨p[i],List.getElem?_eq_getElem hi2,zRD.1 h1,by simpa using h2⟩,hg⟩,rfl,trivial⟩) (fun h2=>⟨i+1,⟨⟨hi2,?_⟩,hμ⟩,rfl,rfl,w1,rfl,rfl,.refl _⟩)⟩) (fun h1=>⟨i+1,⟨⟨hi2,?_⟩,hμ⟩,rfl,rfl,w1,rfl,rfl,.refl _⟩)⟩
   ·rw [hst,h2,Bool.and_false]
   ·rw [hst,h1,Bool.false_and]
  ·have h:=of_decide_eq_false h
   rw [List.length_map] at h
   omega
 ·obtain ⟨hi,hg⟩:i<=p.length/\zR9 ((p.take i).map Pr.sym) s n=false:=hI
  cases e with
  | exit j =>
   match j,kk with
   | 0,kk =>
    have hk:¬ i<p.length:=kk.1
    rw [show i=p.length by omega,List.take_length] at hg
    exact ⟨_,σ,(zJM kk.2).1,.refl _,hR1 hg σ⟩
  | ret=>exact ⟨_,σ,(zJM kk.2).1,.refl _,hR2 i kk.1 σ⟩
  | normal=>exact absurd rfl hne
  | _=>exact kk.elim
theorem c145n_ok:zJD (EV B w0 G) 145 C145n:=by
 rintro args σ Q ⟨s,n,rfl,hQ⟩
 refine zN1 hG (fun v hv => ?_) (.bool _) (fun Q hQ => ?_) hQ
 ·simp only [List.mem_cons,List.not_mem_nil,or_false] at hv
  rcases hv with rfl | rfl
  ·exact .nilslice
  ·exact zRT hG _ _
 exact zJ9 (zKM B w0 G) zMZ (fun lp hl hc Q a σ kk=>zJB zMZ (zKM B w0 G) 145 3 lp hc Q a σ kk) ((vc145n B w0 G s n Q).mpr (hQ _))
theorem zXH:zJD (EV B w0 G) 124 C124:=by
 rintro args σ Q ⟨p,l,rfl,⟨hp,hlen⟩,hQ⟩
 refine zN1 hG (fun v hv => ?_) (.bool _) (fun Q hQ => ?_) hQ
 ·simp only [List.mem_cons,List.not_mem_nil,or_false] at hv
  rcases hv with rfl | rfl | rfl
  ·exact zWN p
  ·exact zQI l
  ·exact .nilslice
 have hH:zIP (EV B w0 G) (H124 (EV B w0 G)):=zJJ (zKM B w0 G) (zJI (c143_ok hG) (zJI (zXG hG) (zJI (c145n_ok hG) zJH)))
 have hQ:∀ σ',Q (.bool (okC p l)) σ':=hQ
 refine zKF (cuts:=[]) (zKM B w0 G) hH (fun lp hl _ Q a' σ kk => ?_) ((vc124 B w0 G p l Q).mpr ⟨⟨rfl,rfl,rfl,rfl,rfl,.refl _⟩,fun h σ'=>by rw [h] at hQ; exact hQ _,fun h σ'=>by rw [h] at hQ; exact hQ _⟩)
 change lp∈zKE Tryz.prog [] 124 at hl
 rw [zWZ] at hl
 simp only [List.mem_cons,List.not_mem_nil,or_false] at hl
 subst hl
 obtain ⟨hat,hR1,hR2⟩:=kk
 refine zK5 (zWY p l) (x0:=0) (fun i hI => ?_) (fun i hI e a' σ hne kk => ?_) ⟨Nat.zero_le _,rfl⟩ hat
 ·obtain ⟨hi,hg⟩:i<=l.length/\okC p (l.take i)=true:=hI
  refine zP3 hH (zKM B w0 G) (by kernel_rfl) ((vc124l B w0 G p l i).mpr (zE2 (fun h => ?_) (fun h=>⟨fun h2 => ?_,trivial⟩)))
  ·have h:=of_decide_eq_true h
   rw [zMH] at h
   have hi2:i<l.length:=by omega
   have hst:=okC_take (p:=p) hi2
   rw [hg,Bool.true_and] at hst
   have w1:TV.v (iZ (IntKind.wrap .i64 ((i:Int)+1)))=TV.v (iZ ((i+1:Nat):Int)):=by rw [show ((i:Int)+1)=((i+1:Nat):Int) by omega,zN8 (by omega) (by omega)]
   have hμ:l.length - (i+1)<l.length - i:=by omega
   refine ⟨⟨by omega,by rw [zMH]; omega⟩,l[i],by rw [Int.toNat_natCast]; exact zNA hi2,l[i],rfl,fun h1=>⟨p,_,_,rfl,hp,fun h2=>⟨_,_,rfl,zXD (i:=i+1) ?_,rfl,trivial⟩,fun j hj=>⟨i+1,⟨⟨hi2,?_⟩,hμ⟩,rfl,rfl,rfl,w1,rfl,zSM⟩⟩,fun h1=>⟨i+1,⟨⟨hi2,?_⟩,hμ⟩,rfl,rfl,rfl,w1,rfl,zSM⟩⟩
   ·rw [hst,if_pos h1]; exact h2
   ·rw [hst,if_pos h1]; exact hj.in_
   ·rw [hst,if_neg h1]
  ·have h:=of_decide_eq_false h
   rw [zMH] at h
   omega
 ·obtain ⟨hi,hg⟩:i<=l.length/\okC p (l.take i)=true:=hI
  cases e with
  | exit j =>
   match j,kk with
   | 0,kk =>
    have hk:¬ i<l.length:=kk.1
    rw [show i=l.length by omega,List.take_length] at hg
    exact ⟨_,σ,(zJM kk.2).1,.refl _,hR1 hg σ⟩
  | ret=>exact ⟨_,σ,(zJM kk.2).1,.refl _,hR2 kk.1 σ⟩
  | normal=>exact absurd rfl hne
  | _=>exact kk.elim
end
end Go.V
namespace Go.V
open Go Go.Proofs
variable (B:Nat) (w0:World) (G:Nat->AV)
def zXI (σ:zA6) (v:AV) (vs:List Int):Prop:=(v = .nilslice/\vs=[])\/∃ (id:Nat) (g:Bool),v = .rslice id 0 vs.length/\σ.objs id = .cells (zP9 vs) 3 1 g
def C149e:zJC:=fun args σ K=>∃ (v:AV) (k:Int) (vs:List Int),args=[v,iZ k]/\((zXI σ v vs/\vs.length<=1000000)/\K (.bool (decide (k∈vs))) σ)
def C149v:zJC:=fun args σ K=>∃ (k:Int) (vs:List Int),args=[.slice 1 (zP9 vs) .any,iZ k]/\(vs.length<=1000000/\K (.bool (decide (k∈vs))) σ.untok)
def zXJ (id:Nat) (vs:List Int) (k:Int) (σ:zA6):LS Nat where
 F i:=[(0,.v (.rslice id 0 vs.length)),(1,.v (iZ k)),(5,.v (iZ (i:Int)))]
 FL _:=[]
 S _:=σ
 I i:=i<=vs.length/\k∉vs.take i
 μ i:=vs.length - i
 Ex i e a σ':=match e with
  | .exit 0=>¬ (i<vs.length)/\atF a [] [] (σ.Le σ')
  | .ret=>k∈vs/\atF a [(4,.v (.bool true))] [] (σ.Le σ')
  | _=>False
theorem vc149el (id:Nat) (vs:List Int) (k:Int) (σ:zA6) (i:Nat):(wpX [] (EV B w0 G) (H0 (EV B w0 G)) nL (zHI 149) N149 (lB 149 0) ((zXJ id vs k σ).post i) (frm ((zXJ id vs k σ).F i) []) σ) =
 (bcase (decide ((i:Int)<(List.length vs:Int)))
 (∃ a0:OE,zA6.objs σ id=zA5.cells (OE.cs a0) 3 1 (OE.g a0)/\((0:Int)<=(i:Int)/\(i:Int)<(List.length vs:Int))/\∃ a1:OE,zA6.objs σ id=zA5.cells (OE.cs a1) 3 1 (OE.g a1)/\(((0+(Int.toNat (i:Int)))*1):Nat)<List.length (OE.cs a1)/\∃ x2:Int,List.getD (OE.cs a1) ((0+Int.toNat (↑i:Int))*1) AV.undef=iZ x2/\bcase ((x2:Int)==k)
 (k∈vs/\Rf (TV.v (AV.bool true))/\zA6.Le σ σ)
 (∃ x'3:Nat,((x'3<=List.length vs/\((k∈List.take x'3 vs)->False))/\LS.μ (zXJ id vs k σ) x'3<LS.μ (zXJ id vs k σ) i)/\Rf (TV.v (AV.rslice id 0 (List.length vs)))/\Rf (TV.v (iZ k))/\TV.v (iZ (IntKind.wrap .i64 ((i:Int)+1)))=TV.v (iZ (x'3:Int))/\zA6.Le ((zXJ id vs k σ).3 x'3) σ))
 (((i<List.length vs)->False)/\zA6.Le σ σ)):=by kernel_rfl
def T149e (id:Nat) (vs:List Int) (k:Int) (σ0:zA6):zFV:=fun _ Q a σ=>atF a ((zXJ id vs k σ0).F 0) [] (σ0.Le σ)/\((k∉vs->Q (.exit 0) (frm [] []) σ0)/\(k∈vs->Q .ret (frm [(4,.v (.bool true))] []) σ0))
theorem vc149e (id:Nat) (vs:List Int) (k:Int) (σ:zA6) (Q:AV->zA6->Prop):(zKD [] (EV B w0 G) (H0 (EV B w0 G)) (T149e id vs k σ) zHI N149 149 [.rslice id 0 vs.length,iZ k] σ Q) =
 ((Rf (TV.v (AV.rslice id 0 (List.length vs)))/\Rf (TV.v (iZ k))/\Rf (TV.v (iZ 0))/\zA6.Le σ σ)/\(((k∈vs)->False)->(Q (AV.bool false) σ))/\((k∈vs)->(Q (AV.bool true) σ))):=by kernel_rfl
def zXK (vs:List Int) (k:Int):LS Nat where
 F i:=[(0,.v (.slice 1 (zP9 vs) .any)),(1,.v (iZ k)),(5,.v (iZ (i:Int)))]
 FL _:=[]
 S _:=zJZ
 I i:=i<=vs.length/\k∉vs.take i
 μ i:=vs.length - i
 Ex i e a σ':=match e with
  | .exit 0=>¬ (i<vs.length)/\atF a [] [] True
  | .ret=>k∈vs/\atF a [(4,.v (.bool true))] [] True
  | _=>False
def N149v:zIE:=hAt [(4,2,zTP)]
theorem vc149vl (vs:List Int) (k:Int) (i:Nat):(wpX [] (EV B w0 G) (H0 (EV B w0 G)) nL (zHI 149) N149v (lB 149 0) ((zXK vs k).post i) (frm ((zXK vs k).F i) []) zJZ) =
 (bcase (decide ((i:Int)<(List.length (zP9 vs):Int)))
 (((0:Int)<=(i:Int)/\(i:Int)<(List.length (zP9 vs):Int))/\∃ x0:Int,AV.vptr (AV.cells (List.getD (zP9 vs) (Int.toNat (↑i:Int)) AV.undef))=AV.vptr [iZ x0]/\bcase ((x0:Int)==k)
 (k∈vs/\Rf (TV.v (AV.bool true))/\True)
 (∃ x'1:Nat,((x'1<=List.length vs/\((k∈List.take x'1 vs)->False))/\LS.μ (zXK vs k) x'1<LS.μ (zXK vs k) i)/\Rf (TV.v (AV.slice 1 (zP9 vs) Cap.any))/\Rf (TV.v (iZ k))/\TV.v (iZ (IntKind.wrap .i64 ((i:Int)+1)))=TV.v (iZ (x'1:Int))/\zA6.Le ((zXK vs k).3 x'1) zJZ))
 (((i<List.length vs)->False)/\True)):=by kernel_rfl
def T149v (vs:List Int) (k:Int):zFV:=fun _ Q a σ=>atF a ((zXK vs k).F 0) [] (zJZ.Le σ)/\((k∉vs->∀ σ':zA6,Q (.exit 0) (frm [] []) σ')/\(k∈vs->∀ σ':zA6,Q .ret (frm [(4,.v (.bool true))] []) σ'))
theorem vc149v (vs:List Int) (k:Int) (Q:AV->zA6->Prop):(zKD [] (EV B w0 G) (H0 (EV B w0 G)) (T149v vs k) zHI N149v 149 [.slice 1 (zP9 vs) .any,iZ k] zJZ Q) =
 ((Rf (TV.v (AV.slice 1 (zP9 vs) Cap.any))/\Rf (TV.v (iZ k))/\Rf (TV.v (iZ 0))/\zA6.Le zJZ zJZ)/\(((k∈vs)->False)->(∀ σ'0:zA6,Q (AV.bool false) σ'0))/\((k∈vs)->(∀ σ'0:zA6,Q (AV.bool true) σ'0))):=by kernel_rfl
def zXL (N:Nat):zJC:=fun args σ K=>∃ (t:T) (v:AV) (vs:List Int),args=[.agg (tc t),v]/\((SizeOf.sizeOf t<N/\vs.length+(zPE t).length<=1000000/\zXI σ v vs) /\
 ∀ (v':AV) (σ':zA6),zXI σ' v' (zS6 (zPE t) vs)->K v' σ')
def H128e (E:Env) (N:Nat):zDY:=hnd E zHI zMU [(149,C149e),(128,zXL N)]
theorem vc128le (N:Nat) (t:T) (I:zQW->Prop) (y:zQW):(wpX [] (EV B w0 G) (H128e (EV B w0 G) N) nL (zHI 128) N128 (lB 128 0) ((zQX t I).post y) (frm [(1,.v y.v),(2,.l 2 0),(5,.v (iZ (y.i:Int)))] [(2,tc t)]) y.σ) =
 (bcase (decide ((zQW.i y:Int)<(List.length (tcellL (T.l t)):Int)))
 (((0:Int)<=(zQW.i y:Int)/\(zQW.i y:Int)<(List.length (tcellL (T.l t)):Int))/\∃ x0:T,AV.vptr (AV.cells (List.getD (tcellL (T.l t)) (Int.toNat (↑(zQW.i y):Int)) AV.undef))=AV.vptr (tc x0)/\∃ t1:T,∃ v2:AV,∃ vs3:List Int,[AV.agg (tc x0),zQW.v y]=[AV.agg (tc t1),v2]/\(SizeOf.sizeOf t1<N/\(((List.length vs3)+(List.length (zPE t1))):Nat)<=1000000/\((v2=AV.nilslice/\vs3=[])\/∃ id4:Nat,∃ g5:Bool,v2=AV.rslice id4 0 (List.length vs3)/\zA6.objs y.1 id4=zA5.cells (zP9 vs3) 3 1 g5))/\(∀ v'4:AV,(∀ σ'5:zA6,(((v'4=AV.nilslice/\zS6 (zPE t1) vs3=[])\/∃ id6:Nat,∃ g7:Bool,v'4=AV.rslice id6 0 (List.length (zS6 (zPE t1) vs3))/\zA6.objs σ'5 id6=zA5.cells (zP9 (zS6 (zPE t1) vs3)) 3 1 g7)->(∃ x'6:zQW,(I x'6/\LS.μ (zQX t I) x'6<LS.μ (zQX t I) y)/\TV.v v'4=TV.v (zQW.v x'6)/\Rf (TV.l 2 0)/\TV.v (iZ (IntKind.wrap .i64 ((zQW.i y:Int)+1)))=TV.v (iZ (zQW.i x'6:Int))/\Rf (tc t)/\zA6.Le ((zQX t I).3 x'6) σ'5)))))
 (((zQW.i y<List.length (T.l t))->False)/\Rf (TV.v (zQW.v y))/\zA6.Le y.1 y.1)):=by kernel_rfl
theorem vc128ne (N:Nat) (t:T) (I R:zQW->Prop) (σ:zA6) (Q:AV->zA6->Prop):(zKD [] (EV B w0 G) (H128e (EV B w0 G) N) (T128 t I R) zHI N128 128 [.agg (tc t),.nilslice] σ Q) =
 (bcase (((T.k t):Int)==1)
 (∃ v0:AV,∃ k1:Int,∃ vs2:List Int,[AV.nilslice,iZ (T.n t)]=[v0,iZ k1]/\(((v0=AV.nilslice/\vs2=[])\/∃ id3:Nat,∃ g4:Bool,v0=AV.rslice id3 0 (List.length vs2)/\zA6.objs σ id3=zA5.cells (zP9 vs2) 3 1 g4)/\List.length vs2<=1000000)/\bcase (!(decide (k1∈vs2)))
 (Bd0 8 1/\∃ y3:zQW,I y3/\(TV.v (AV.rslice (zA6.next σ) 0 1)=TV.v (zQW.v y3)/\Rf (TV.l 2 0)/\TV.v (iZ 0)=TV.v (iZ (zQW.i y3:Int))/\Rf (tc t)/\zA6.Le y3.1 (zA6.new σ (zA5.cells [iZ (T.n t)] 3 1 true)))/\(∀ y'4:zQW,((R y'4)->(Q (zQW.v y'4) y'4.1))))
 (∃ y3:zQW,I y3/\(TV.v AV.nilslice=TV.v (zQW.v y3)/\Rf (TV.l 2 0)/\TV.v (iZ 0)=TV.v (iZ (zQW.i y3:Int))/\Rf (tc t)/\zA6.Le y3.1 σ)/\(∀ y'4:zQW,((R y'4)->(Q (zQW.v y'4) y'4.1)))))
 (∃ y0:zQW,I y0/\(TV.v AV.nilslice=TV.v (zQW.v y0)/\Rf (TV.l 2 0)/\TV.v (iZ 0)=TV.v (iZ (zQW.i y0:Int))/\Rf (tc t)/\zA6.Le y0.1 σ)/\(∀ y'1:zQW,((R y'1)->(Q (zQW.v y'1) y'1.1))))):=by kernel_rfl
theorem vc128re (N:Nat) (t:T) (id n:Nat) (I R:zQW->Prop) (σ:zA6) (Q:AV->zA6->Prop):(zKD [] (EV B w0 G) (H128e (EV B w0 G) N) (T128 t I R) zHI N128 128 [.agg (tc t),.rslice id 0 n] σ Q) =
 (bcase (((T.k t):Int)==1)
 (∃ v0:AV,∃ k1:Int,∃ vs2:List Int,[AV.rslice id 0 n,iZ (T.n t)]=[v0,iZ k1]/\(((v0=AV.nilslice/\vs2=[])\/∃ id3:Nat,∃ g4:Bool,v0=AV.rslice id3 0 (List.length vs2)/\zA6.objs σ id3=zA5.cells (zP9 vs2) 3 1 g4)/\List.length vs2<=1000000)/\bcase (!(decide (k1∈vs2)))
 (∃ a3:OE,zA6.objs σ id=zA5.cells (OE.cs a3) 3 1 (OE.g a3)/\((0:Nat)=0/\Bd (n+1) 8/\((n*1):Nat)<=List.length (OE.cs a3))/\∃ y4:zQW,I y4/\(TV.v (AV.rslice (zA6.next σ) 0 (n+1))=TV.v (zQW.v y4)/\Rf (TV.l 2 0)/\TV.v (iZ 0)=TV.v (iZ (zQW.i y4:Int))/\Rf (tc t)/\zA6.Le y4.1 (zA6.new (zA6.set σ id zA5.dead) (zA5.cells ((List.take (n*1) (OE.cs a3))++[iZ (T.n t)]) 3 1 true)))/\(∀ y'5:zQW,((R y'5)->(Q (zQW.v y'5) y'5.1))))
 (∃ y3:zQW,I y3/\(TV.v (AV.rslice id 0 n)=TV.v (zQW.v y3)/\Rf (TV.l 2 0)/\TV.v (iZ 0)=TV.v (iZ (zQW.i y3:Int))/\Rf (tc t)/\zA6.Le y3.1 σ)/\(∀ y'4:zQW,((R y'4)->(Q (zQW.v y'4) y'4.1)))))
 (∃ y0:zQW,I y0/\(TV.v (AV.rslice id 0 n)=TV.v (zQW.v y0)/\Rf (TV.l 2 0)/\TV.v (iZ 0)=TV.v (iZ (zQW.i y0:Int))/\Rf (tc t)/\zA6.Le y0.1 σ)/\(∀ y'1:zQW,((R y'1)->(Q (zQW.v y'1) y'1.1))))):=by kernel_rfl
def C105:zJC:=fun args σ K=>∃ l:List T,args=[slV l]/\((zS5 l=true/\l.length<=1000000)/\K (.slice 1 (zP9 (zS7 l)) .any) σ.untok)
def zXM (l:List T) (I:zQW->Prop):LS zQW where
 F y:=[(0,.v (slV l)),(3,.v y.v),(4,.v (iZ (y.i:Int)))]
 FL _:=[]
 S y:=y.σ
 I:=I
 μ y:=l.length - y.i
 Ex y e a σ:=match e with
  | .exit 0=>¬ (y.i<l.length)/\atF a [(3,.v y.v)] [] (y.σ.Le σ)
  | _=>False
def N105:zIE:=hAt [(5,2,hT)]
theorem zXN:zKE Tryz.prog [] 105=[.loop (lB 105 0)]:=by kernel_rfl
theorem vc105l (N:Nat) (l:List T) (I:zQW->Prop) (y:zQW):(wpX [] (EV B w0 G) (hnd (EV B w0 G) zHI zMU [(128,zXL N)]) nL (zHI 105) N105 (lB 105 0) ((zXM l I).post y) (frm [(0,.v (slV l)),(3,.v y.v),(4,.v (iZ (y.i:Int)))] []) y.σ) =
 (bcase (decide ((zQW.i y:Int)<(List.length (tcellL l):Int)))
 (((0:Int)<=(zQW.i y:Int)/\(zQW.i y:Int)<(List.length (tcellL l):Int))/\∃ x0:T,AV.vptr (AV.cells (List.getD (tcellL l) (Int.toNat (↑(zQW.i y):Int)) AV.undef))=AV.vptr (tc x0)/\∃ t1:T,∃ v2:AV,∃ vs3:List Int,[AV.agg (tc x0),zQW.v y]=[AV.agg (tc t1),v2]/\(SizeOf.sizeOf t1<N/\(((List.length vs3)+(List.length (zPE t1))):Nat)<=1000000/\((v2=AV.nilslice/\vs3=[])\/∃ id4:Nat,∃ g5:Bool,v2=AV.rslice id4 0 (List.length vs3)/\zA6.objs y.1 id4=zA5.cells (zP9 vs3) 3 1 g5))/\(∀ v'4:AV,(∀ σ'5:zA6,(((v'4=AV.nilslice/\zS6 (zPE t1) vs3=[])\/∃ id6:Nat,∃ g7:Bool,v'4=AV.rslice id6 0 (List.length (zS6 (zPE t1) vs3))/\zA6.objs σ'5 id6=zA5.cells (zP9 (zS6 (zPE t1) vs3)) 3 1 g7)->(∃ x'6:zQW,(I x'6/\LS.μ (zXM l I) x'6<LS.μ (zXM l I) y)/\Rf (TV.v (sT l))/\TV.v v'4=TV.v (zQW.v x'6)/\TV.v (iZ (IntKind.wrap .i64 ((zQW.i y:Int)+1)))=TV.v (iZ (zQW.i x'6:Int))/\zA6.Le ((zXM l I).3 x'6) σ'5)))))
 (((zQW.i y<List.length l)->False)/\Rf (TV.v (zQW.v y))/\zA6.Le y.1 y.1)):=by kernel_rfl
def T105 (l:List T) (I R:zQW->Prop):zFV:=fun _ Q a σ=>∃ y:zQW,I y/\atF a ((zXM l I).F y) [] (y.σ.Le σ)/\∀ y':zQW,R y'->Q (.exit 0) (frm [(3,.v y'.v)] []) y'.σ
theorem vc105 (N:Nat) (l:List T) (I R:zQW->Prop) (Q:AV->zA6->Prop):(zKD [] (EV B w0 G) (hnd (EV B w0 G) zHI zMU [(128,zXL N)]) (T105 l I R) zHI N105 105 [slV l] zJZ Q) =
 (∃ y0:zQW,I y0/\(Rf (TV.v (sT l))/\TV.v AV.nilslice=TV.v (zQW.v y0)/\TV.v (iZ 0)=TV.v (iZ (zQW.i y0:Int))/\zA6.Le y0.1 zJZ)/\(∀ y'1:zQW,((R y'1)->(Q (zQW.v y'1) y'1.1)))):=by kernel_rfl
def C141:zJC:=fun args σ K=>∃ (l:List T) (vars:Int),args=[slV l,iZ vars]/\((zS5 l=true/\l.length<=1000000)/\K (.bool (zS8 l vars&&decide (vars<=64))) σ.untok)
def zXO (vs:List Int) (vars:Int):LS Nat where
 F i:=[(1,.v (iZ vars)),(5,.v (.slice 1 (zP9 vs) .any)),(6,.v (iZ (i:Int)))]
 FL _:=[]
 S _:=zJZ
 I i:=i<=vs.length/\zTN (vs.take i)
 μ i:=vs.length - i
 Ex i e a σ:=match e with
  | .exit 0=>zTN vs/\atF a [(1,.v (iZ vars)),(5,.v (.slice 1 (zP9 vs) .any))] [] True
  | .ret=>(¬ zTN vs)/\atF a [(4,.v (.bool false))] [] True
  | _=>False
def N141:zIE:=hAt [(5,2,zTP)]
theorem zXP:zKE Tryz.prog [] 141=[.loop (lB 141 0)]:=by kernel_rfl
theorem vc141l (vs:List Int) (vars:Int) (i:Nat):(wpX [] (EV B w0 G) (H0 (EV B w0 G)) nL (zHI 141) N141 (lB 141 0) ((zXO vs vars).post i) (frm ((zXO vs vars).F i) []) zJZ) =
 (bcase (decide ((i:Int)<(List.length (zP9 vs):Int)))
 (((0:Int)<=(i:Int)/\(i:Int)<(List.length (zP9 vs):Int))/\∃ x0:Int,AV.vptr (AV.cells (List.getD (zP9 vs) (Int.toNat (↑i:Int)) AV.undef))=AV.vptr [iZ x0]/\bcase ((x0:Int) != (i:Int))
 (((zTN vs)->False)/\Rf (TV.v (AV.bool false))/\True)
 (∃ x'1:Nat,((x'1<=List.length vs/\zTN (List.take x'1 vs))/\LS.μ (zXO vs vars) x'1<LS.μ (zXO vs vars) i)/\Rf (TV.v (iZ vars))/\Rf (TV.v (AV.slice 1 (zP9 vs) Cap.any))/\TV.v (iZ (IntKind.wrap .i64 ((i:Int)+1)))=TV.v (iZ (x'1:Int))/\zA6.Le ((zXO vs vars).3 x'1) zJZ))
 (zTN vs/\Rf (TV.v (iZ vars))/\Rf (TV.v (AV.slice 1 (zP9 vs) Cap.any))/\True)):=by kernel_rfl
def T141 (vs:List Int) (vars:Int):zFV:=fun _ Q a σ=>atF a ((zXO vs vars).F 0) [] (zJZ.Le σ)/\((zTN vs->∀ σ':zA6,Q (.exit 0) (frm [(1,.v (iZ vars)),(5,.v (.slice 1 (zP9 vs) .any))] []) σ')/\(¬ zTN vs->∀ σ':zA6,Q .ret (frm [(4,.v (.bool false))] []) σ'))
theorem vc141 (l:List T) (vars:Int) (Q:AV->zA6->Prop):(zKD [] (EV B w0 G) (hnd (EV B w0 G) zHI zMU [(105,C105)]) (T141 (zS7 l) vars) zHI N141 141 [slV l,iZ vars] zJZ Q) =
 (∃ l0:List T,[sT l]=[sT l0]/\(zS5 l0=true/\List.length l0<=1000000)/\(Rf (TV.v (iZ vars))/\TV.v (AV.slice 1 (zP9 (zS7 l0)) Cap.any)=TV.v (AV.slice 1 (zP9 (zS7 l)) Cap.any)/\Rf (TV.v (iZ 0))/\zA6.Le zJZ (Ut zJZ))/\((zTN (zS7 l))->(∀ σ'1:zA6,bcase ((vars:Int)==(List.length (zP9 (zS7 l)):Int))
 (Q (AV.bool (decide ((vars:Int)<=64))) σ'1)
 (Q (AV.bool false) σ'1)))/\(((zTN (zS7 l))->False)->(∀ σ'1:zA6,Q (AV.bool false) σ'1))):=by kernel_rfl
end Go.V
namespace Go.V
open Go Go.Proofs

theorem zXQ {vs:List Int} {i:Nat} (h:i<vs.length) (k:Int):k∉vs.take (i+1)↔k∉vs.take i/\vs[i]≠k:=by
 rw [List.take_succ_eq_append_getElem h,List.mem_append,List.mem_singleton]
 constructor
 ·exact fun e=>⟨fun h=>e (.inl h),fun h=>e (.inr h.symm)⟩
 ·rintro ⟨h1,h2⟩ (h | h)
  ·exact h1 h
  ·exact h2 h.symm
theorem zXI.deep {σ:zA6} {v:AV} {vs:List Int} (h:zXI σ v vs):∃ v',deep Tryz.prog σ 3 v=some v'/\Wk v' (.slice 1 (zP9 vs) .any):=by
 rcases h with ⟨rfl,rfl⟩ | ⟨id,g,rfl,ho⟩
 ·exact ⟨.nilslice,rfl,Wk.nil 1⟩
 ·have hk:zAC Tryz.prog 3=some none:=by kernel_rfl
  refine ⟨.slice 1 (zP9 vs) .nn,?_,Wk.slice _ _ _⟩
  refine zP5 (n:=2) (off:=0) (len:=vs.length) ho hk rfl (by decide) (by rw [zPA]; omega) ?_
  rw [Nat.zero_mul,List.drop_zero,Nat.mul_one,<-zPA vs,List.take_length,zCH _ _ (Nat.le_refl _),List.take_length,zTM zLR]
theorem zXR (t:T) (l:List T) (vs:List Int):zS6 (t :: l) vs=zS6 l (if t.k=1/\t.n∉vs then vs++[t.n] else vs):=rfl
theorem zXI.new {τ:zA6} {vs:List Int} {n:Int} {cs:List AV} (h:cs=zP9 vs++[iZ n]):zXI (τ.new (.cells cs 3 1 true)) (.rslice τ.next 0 (vs.length+1)) (vs++[n]):=by
 subst h
 exact .inr ⟨τ.next,true,by rw [List.length_append]; rfl,by rw [zA6.new_objs,zTJ]⟩

section
variable {B:Nat} {w0:World} {G:Nat->AV}
theorem c149e_ok:zJD (EV B w0 G) 149 C149e:=by
 rintro args σ Q ⟨v,k,vs,rfl,⟨hv,hb⟩,hQ⟩
 rcases hv with ⟨rfl,rfl⟩ | ⟨id,g,rfl,ho⟩
 ·exact zJ9 (zKM B w0 G) zQ7 (fun lp hl hc Q a σ kk=>zJB zQ7 (zKM B w0 G) 149 3 lp hc Q a σ kk) ((vc149n B w0 G k σ Q).mpr hQ)
 refine zKF (cuts:=[]) (zKM B w0 G) zQ7 (fun lp hl _ Q a' σ' kk => ?_) ((vc149e B w0 G id vs k σ Q).mpr ⟨⟨rfl,rfl,rfl,.refl _⟩,fun h=>by rw [decide_eq_false h] at hQ; exact hQ,fun h=>by rw [decide_eq_true h] at hQ; exact hQ⟩)
 change lp∈zKE Tryz.prog [] 149 at hl
 rw [zQU] at hl
 simp only [List.mem_cons,List.not_mem_nil,or_false] at hl
 subst hl
 obtain ⟨hat,hR1,hR2⟩:=kk
 refine zK5 (zXJ id vs k σ) (x0:=0) (fun i hI => ?_) (fun i hI e a' σ' hne kk => ?_) ⟨Nat.zero_le _,by simp⟩ hat
 ·obtain ⟨hi,hg⟩:i<=vs.length/\k∉vs.take i:=hI
  refine zP3 zQ7 (zKM B w0 G) (by kernel_rfl) ((vc149el B w0 G id vs k σ i).mpr (zE2 (fun h => ?_) (fun h=>⟨?_,.refl _⟩)))
  ·have h:=of_decide_eq_true h
   have hk:i<vs.length:=by omega
   have w1:IntKind.wrap .i64 ((i:Int)+1)=((i+1:Nat):Int):=by rw [zN8 (by omega) (by omega)]; omega
   have hz:(zP9 vs).getD i .undef=iZ vs[i]:=by unfold zP9; rw [List.getD,List.getElem?_map,List.getElem?_eq_getElem hk]; rfl
   refine ⟨⟨zP9 vs,g⟩,ho,⟨by omega,h⟩,⟨zP9 vs,g⟩,ho,by rw [idx1]; show i<(zP9 vs).length; rw [zPA]; exact hk,vs[i],by rw [idx1]; exact hz,zE2 (fun h2=>⟨?_,rfl,.refl _⟩) (fun h2=>⟨i+1,⟨⟨hk,(zXQ hk k).2 ⟨hg,by simpa using h2⟩⟩,by show vs.length - (i+1)<vs.length - i; omega⟩,rfl,rfl,by rw [w1],.refl _⟩)⟩
   have h2:vs[i]=k:=by simpa using h2
   rw [<-h2]; exact List.getElem_mem hk
  ·have h:=of_decide_eq_false h
   exact fun h2=>by have h2:i<vs.length:=h2; omega
 ·obtain ⟨hi,hg⟩:i<=vs.length/\k∉vs.take i:=hI
  cases e with
  | exit j =>
   match j,kk with
   | 0,kk =>
    have hk:¬ i<vs.length:=kk.1
    rw [show i=vs.length by omega,List.take_length] at hg
    exact ⟨_,_,(zJM kk.2).1,(zJM kk.2).2,hR1 hg⟩
  | ret=>exact ⟨_,_,(zJM kk.2).1,(zJM kk.2).2,hR2 kk.1⟩
  | normal=>exact absurd rfl hne
  | _=>exact kk.elim
theorem zXS:∀ N,zJD (EV B w0 G) 128 (zXL N)
 | 0=>by
  rintro args σ Q ⟨t,v,vs,rfl,⟨hN,_⟩,_⟩
  omega
 | N+1=>by
  rintro args σ Q ⟨t,v,vs,rfl,⟨hN,hb,hS⟩,hQ⟩
  have hH:zIP (EV B w0 G) (H128e (EV B w0 G) N):=zJJ (zKM B w0 G) (zJI c149e_ok (zJI (zXS N) zJH))
  have hb2:vs.length+1+(nodesTL t.l).length<=1000000:=by rw [zPJ,List.length_cons] at hb; omega
  have hlen:=zPO t.l
  obtain ⟨us,hus⟩:∃ us,us=(if t.k=1/\t.n∉vs then vs++[t.n] else vs):=⟨_,rfl⟩
  have hul:us.length<=vs.length+1:=by
   rw [hus]; split <;> simp
  have hall:zS6 (zPE t) vs=zS6 (nodesTL t.l) us:=by rw [zPJ,zXR,hus]
  let I:zQW->Prop:=fun y=>y.i<=t.l.length/\zXI y.σ y.v (zS6 (nodesTL (t.l.take y.i)) us)
  let R:zQW->Prop:=fun y=>zXI y.σ y.v (zS6 (zPE t) vs)
  have I0:∀ (v':AV) (σ':zA6),zXI σ' v' us->I ⟨σ',v',0⟩:=fun v' σ' h=>⟨Nat.zero_le _,h⟩
  have loops:∀ lp∈zKE Tryz.prog [] 128,∀ (Q:zDW) (a':zDN) (σ:zA6),T128 t I R lp Q a' σ->AWp (EV B w0 G) none (zJ8 Tryz.prog 128) lp Q a' σ:=by
   intro lp hl Q a' σ kk
   rw [zQY] at hl
   simp only [List.mem_cons,List.not_mem_nil,or_false] at hl
   subst hl
   obtain ⟨y0,hI0,hat,hR⟩:=kk
   refine zK5 (zQX t I) (x0:=y0) (fun y hI => ?_) (fun y hI e a' σ hne kk => ?_) hI0 hat
   ·obtain ⟨hi,hSy⟩:I y:=hI
    show AWp _ _ _ _ _ (frm [(1,.v y.v),(2,.l 2 0),(5,.v (iZ (y.i:Int)))] [(2,tc t)]) y.σ
    refine zP3 hH (zKM B w0 G) (by kernel_rfl) ((vc128le B w0 G N t I y).mpr (zE2 (fun h => ?_) (fun h=>⟨fun h2 => ?_,rfl,.refl _⟩)))
    ·have h:=of_decide_eq_true h
     have hk:y.i<t.l.length:=by rw [zMH] at h; omega
     have w1:IntKind.wrap .i64 ((y.i:Int)+1)=((y.i+1:Nat):Int):=by rw [zN8 (by omega) (by omega)]; omega
     have hle:=zPM t.l (y.i+1)
     rw [zPL hk,List.length_append] at hle
     have hal:=zTE (nodesTL (t.l.take y.i)) us
     refine ⟨⟨by omega,h⟩,t.l[y.i],by rw [Int.toNat_natCast]; exact zNA hk,t.l[y.i],y.v,_,rfl,⟨?_,?_,hSy⟩,fun v' σ' hS'=>⟨⟨σ',v',y.i+1⟩,⟨⟨hk,?_⟩,?_⟩,rfl,rfl,?_,rfl,.refl _⟩⟩
     ·have:=T.sizeOf_mem (List.getElem_mem hk); omega
     ·omega
     ·show zXI σ' v' (zS6 (nodesTL (t.l.take (y.i+1))) us)
      rw [zPL hk,zTC]; exact hS'
     ·show t.l.length - (y.i+1)<t.l.length - y.i
      omega
     ·show TV.v (iZ _)=TV.v (iZ ((y.i+1:Nat):Int))
      rw [w1]
    ·have h:=of_decide_eq_false h
     rw [zMH] at h; omega
   ·obtain ⟨hi,hSy⟩:I y:=hI
    cases e with
    | exit j =>
     match j,kk with
     | 0,kk =>
      have hk:¬ y.i<t.l.length:=kk.1
      refine ⟨_,_,(zJM kk.2).1,(zJM kk.2).2,hR y ?_⟩
      rw [show y.i=t.l.length by omega,List.take_length] at hSy
      show zXI y.σ y.v (zS6 (zPE t) vs)
      rw [hall]; exact hSy
    | normal=>exact absurd rfl hne
    | _=>exact kk.elim
  have hsame:¬ (t.k=1/\t.n∉vs)->us=vs:=fun h=>by rw [hus,if_neg h]
  have hnew:t.k=1->t.n∉vs->us=vs++[t.n]:=fun h1 h2=>by rw [hus,if_pos ⟨h1,h2⟩]
  rcases hS with ⟨rfl,rfl⟩ | ⟨id,g,rfl,ho⟩
  ·have old:zXI σ .nilslice []:=.inl ⟨rfl,rfl⟩
   refine zKF (cuts:=[]) (zKM B w0 G) hH (fun lp hl _ Q a' σ kk=>loops lp hl Q a' σ kk) ((vc128ne B w0 G N t I R σ Q).mpr (zE2 (fun hk => ?_) (fun hk => ?_)))
   ·have hk:t.k=1:=by simpa using hk
    refine ⟨.nilslice,t.n,[],rfl,⟨old,by simp⟩,zE2 (fun h2=>⟨⟨by omega,by omega⟩,⟨_,.rslice σ.next 0 1,0⟩,I0 _ _ ?_,⟨rfl,rfl,rfl,rfl,.refl _⟩,fun y' hy=>hQ _ _ hy⟩) (fun h2=>by simp at h2)⟩
    rw [hnew hk (by simp)]
    exact zXI.new (vs:=[]) rfl
   ·refine ⟨⟨σ,.nilslice,0⟩,I0 _ _ ?_,⟨rfl,rfl,rfl,rfl,.refl _⟩,fun y' hy=>hQ _ _ hy⟩
    rw [hsame (fun h=>by rw [h.1] at hk; simp at hk)]; exact old
  ·have old:zXI σ (.rslice id 0 vs.length) vs:=.inr ⟨id,g,rfl,ho⟩
   refine zKF (cuts:=[]) (zKM B w0 G) hH (fun lp hl _ Q a' σ kk=>loops lp hl Q a' σ kk) ((vc128re B w0 G N t id vs.length I R σ Q).mpr (zE2 (fun hk => ?_) (fun hk => ?_)))
   ·have hk:t.k=1:=by simpa using hk
    refine ⟨.rslice id 0 vs.length,t.n,vs,rfl,⟨old,by omega⟩,zE2 (fun h2=>⟨⟨zP9 vs,g⟩,ho,⟨rfl,⟨by omega,by omega⟩,by show vs.length*1<=(zP9 vs).length; rw [zPA]; omega⟩,⟨_,.rslice σ.next 0 (vs.length+1),0⟩,I0 _ _ ?_,⟨rfl,rfl,rfl,rfl,.refl _⟩,fun y' hy=>hQ _ _ hy⟩) (fun h2=>⟨⟨σ,.rslice id 0 vs.length,0⟩,I0 _ _ ?_,⟨rfl,rfl,rfl,rfl,.refl _⟩,fun y' hy=>hQ _ _ hy⟩)⟩
    ·rw [hnew hk (by simpa using h2)]
     refine zXI.new (τ:=σ.set id .dead) ?_
     show (zP9 vs).take (vs.length*1)++[iZ t.n]=_
     rw [Nat.mul_one,<-zPA vs,List.take_length]
    ·rw [hsame (fun h=>by rw [decide_eq_false h.2] at h2; simp at h2)]; exact old
   ·refine ⟨⟨σ,.rslice id 0 vs.length,0⟩,I0 _ _ ?_,⟨rfl,rfl,rfl,rfl,.refl _⟩,fun y' hy=>hQ _ _ hy⟩
    rw [hsame (fun h=>by rw [h.1] at hk; simp at hk)]; exact old
variable (hG:∀ i,zJV (G i))
include hG
theorem c149v_ok:zJD (EV B w0 G) 149 C149v:=by
 rintro args σ Q ⟨k,vs,rfl,hb,hQ⟩
 refine zN1 hG (fun v hv => ?_) (.bool _) (fun Q hQ => ?_) hQ
 ·simp only [List.mem_cons,List.not_mem_nil,or_false] at hv
  rcases hv with rfl | rfl
  ·exact zPC vs
  ·exact .int _ _
 refine zKF (cuts:=[]) (zKM B w0 G) zMZ (fun lp hl _ Q a' σ' kk => ?_) ((vc149v B w0 G vs k Q).mpr ⟨⟨rfl,rfl,rfl,.refl _⟩,fun h σ'=>by rw [decide_eq_false h] at hQ; exact hQ _,fun h σ'=>by rw [decide_eq_true h] at hQ; exact hQ _⟩)
 change lp∈zKE Tryz.prog [] 149 at hl
 rw [zQU] at hl
 simp only [List.mem_cons,List.not_mem_nil,or_false] at hl
 subst hl
 obtain ⟨hat,hR1,hR2⟩:=kk
 refine zK5 (zXK vs k) (x0:=0) (fun i hI => ?_) (fun i hI e a' σ' hne kk => ?_) ⟨Nat.zero_le _,by simp⟩ hat
 ·obtain ⟨hi,hg⟩:i<=vs.length/\k∉vs.take i:=hI
  refine zP3 zMZ (zKM B w0 G) (by kernel_rfl) ((vc149vl B w0 G vs k i).mpr (zE2 (fun h => ?_) (fun h=>⟨?_,trivial⟩)))
  ·have h:=of_decide_eq_true h
   rw [zPA] at h
   have hk:i<vs.length:=by omega
   have w1:IntKind.wrap .i64 ((i:Int)+1)=((i+1:Nat):Int):=by rw [zN8 (by omega) (by omega)]; omega
   refine ⟨⟨by omega,by rw [zPA]; omega⟩,vs[i],by rw [Int.toNat_natCast]; exact zPB hk,zE2 (fun h2=>⟨?_,rfl,trivial⟩) (fun h2=>⟨i+1,⟨⟨hk,(zXQ hk k).2 ⟨hg,by simpa using h2⟩⟩,by show vs.length - (i+1)<vs.length - i; omega⟩,rfl,rfl,by rw [w1],.refl _⟩)⟩
   have h2:vs[i]=k:=by simpa using h2
   rw [<-h2]; exact List.getElem_mem hk
  ·have h:=of_decide_eq_false h
   rw [zPA] at h
   exact fun h2=>by have h2:i<vs.length:=h2; omega
 ·obtain ⟨hi,hg⟩:i<=vs.length/\k∉vs.take i:=hI
  cases e with
  | exit j =>
   match j,kk with
   | 0,kk =>
    have hk:¬ i<vs.length:=kk.1
    rw [show i=vs.length by omega,List.take_length] at hg
    exact ⟨_,σ',(zJM kk.2).1,.refl _,hR1 hg σ'⟩
  | ret=>exact ⟨_,σ',(zJM kk.2).1,.refl _,hR2 kk.1 σ'⟩
  | normal=>exact absurd rfl hne
  | _=>exact kk.elim
theorem zXT:zJD (EV B w0 G) 105 C105:=by
 rintro args σ Q ⟨l,rfl,⟨ht,hlen⟩,hQ⟩
 have hn:=zTT ht
 have hH:zIP (EV B w0 G) (hnd (EV B w0 G) zHI zMU [(128,zXL (SizeOf.sizeOf l+1))]):=zJJ (zKM B w0 G) (zJI (zXS _) zJH)
 refine zDV.pureD 3 hG (Q0:=fun v σ'=>zXI σ' v (zS7 l)) (fun v hv => ?_) ?_ (fun v σ' k => ?_)
 ·simp only [List.mem_cons,List.not_mem_nil,or_false] at hv
  subst hv; exact zQI l
 rotate_left
 ·obtain ⟨v',h1,h2⟩:=k.deep
  exact ⟨v',_,h1,h2,zPC _,hQ⟩
 let I:zQW->Prop:=fun y=>y.i<=l.length/\zXI y.σ y.v (zS6 (nodesTL (l.take y.i)) [])
 let R:zQW->Prop:=fun y=>zXI y.σ y.v (zS7 l)
 refine zKF (cuts:=[]) (zKM B w0 G) hH (fun lp hl _ Q a' σ kk => ?_) ((vc105 B w0 G _ l I R _).mpr ⟨⟨zJZ,.nilslice,0⟩,⟨Nat.zero_le _,.inl ⟨rfl,rfl⟩⟩,⟨rfl,rfl,rfl,.refl _⟩,fun y' hy=>hy⟩)
 change lp∈zKE Tryz.prog [] 105 at hl
 rw [zXN] at hl
 simp only [List.mem_cons,List.not_mem_nil,or_false] at hl
 subst hl
 obtain ⟨y0,hI0,hat,hR⟩:=kk
 refine zK5 (zXM l I) (x0:=y0) (fun y hI => ?_) (fun y hI e a' σ hne kk => ?_) hI0 hat
 ·obtain ⟨hi,hSy⟩:I y:=hI
  show AWp _ _ _ _ _ (frm [(0,.v (slV l)),(3,.v y.v),(4,.v (iZ (y.i:Int)))] []) y.σ
  refine zP3 hH (zKM B w0 G) (by kernel_rfl) ((vc105l B w0 G _ l I y).mpr (zE2 (fun h => ?_) (fun h=>⟨fun h2 => ?_,rfl,.refl _⟩)))
  ·have h:=of_decide_eq_true h
   have hk:y.i<l.length:=by rw [zMH] at h; omega
   have w1:IntKind.wrap .i64 ((y.i:Int)+1)=((y.i+1:Nat):Int):=by rw [zN8 (by omega) (by omega)]; omega
   have hle:=zPM l (y.i+1)
   rw [zPL hk,List.length_append] at hle
   have hal:=zTE (nodesTL (l.take y.i)) []
   rw [List.length_nil] at hal
   refine ⟨⟨by omega,h⟩,l[y.i],by rw [Int.toNat_natCast]; exact zNA hk,l[y.i],y.v,_,rfl,⟨?_,?_,hSy⟩,fun v' σ' hS'=>⟨⟨σ',v',y.i+1⟩,⟨⟨hk,?_⟩,?_⟩,rfl,rfl,?_,.refl _⟩⟩
   ·have:=List.sizeOf_lt_of_mem (List.getElem_mem hk); omega
   ·omega
   ·show zXI σ' v' (zS6 (nodesTL (l.take (y.i+1))) [])
    rw [zPL hk,zTC]; exact hS'
   ·show l.length - (y.i+1)<l.length - y.i
    omega
   ·show TV.v (iZ _)=TV.v (iZ ((y.i+1:Nat):Int))
    rw [w1]
  ·have h:=of_decide_eq_false h
   rw [zMH] at h; omega
 ·obtain ⟨hi,hSy⟩:I y:=hI
  cases e with
  | exit j =>
   match j,kk with
   | 0,kk =>
    have hk:¬ y.i<l.length:=kk.1
    refine ⟨_,_,(zJM kk.2).1,(zJM kk.2).2,hR y ?_⟩
    rw [show y.i=l.length by omega,List.take_length] at hSy
    exact hSy
  | normal=>exact absurd rfl hne
  | _=>exact kk.elim
theorem zXU:zJD (EV B w0 G) 141 C141:=by
 rintro args σ Q ⟨l,vars,rfl,⟨ht,hlen⟩,hQ⟩
 refine zN1 hG (fun v hv => ?_) (.bool _) (fun Q hQ => ?_) hQ
 ·simp only [List.mem_cons,List.not_mem_nil,or_false] at hv
  rcases hv with rfl | rfl
  ·exact zQI l
  ·exact .int _ _
 have hn:=zTT ht
 have hvl:=zTF l
 unfold zS8 at hQ
 refine zKF (cuts:=[]) (zKM B w0 G) (zJJ (zKM B w0 G) (zJI (zXT hG) zJH)) (fun lp hl _ Q a' σ kk => ?_) ((vc141 B w0 G l vars Q).mpr ⟨l,rfl,⟨ht,hlen⟩,⟨rfl,rfl,rfl,zSM⟩,fun h σ' => ?_,fun h σ' => ?_⟩)
 rotate_left
 ·rw [decide_eq_true h.eq,Bool.true_and] at hQ
  rw [zPA]
  refine zE2 (fun h2 => ?_) (fun h2 => ?_)
  ·have h2:vars=((zS7 l).length:Int):=by simpa using h2
   rw [decide_eq_true h2.symm,Bool.true_and] at hQ; exact hQ _
  ·have h2:vars≠((zS7 l).length:Int):=by simpa using h2
   rw [decide_eq_false (fun e=>h2 e.symm),Bool.false_and] at hQ; exact hQ _
 ·rw [decide_eq_false (fun k=>h ⟨k⟩),Bool.false_and,Bool.false_and] at hQ
  exact hQ σ'
 change lp∈zKE Tryz.prog [] 141 at hl
 rw [zXP] at hl
 simp only [List.mem_cons,List.not_mem_nil,or_false] at hl
 subst hl
 obtain ⟨hat,hR1,hR2⟩:=kk
 generalize zS7 l=vs at *
 refine zK5 (zXO vs vars) (x0:=0) (fun i hI => ?_) (fun i hI e a' σ hne kk => ?_) ⟨Nat.zero_le _,⟨rfl⟩⟩ hat
 ·obtain ⟨hi,hg⟩:i<=vs.length/\zTN (vs.take i):=hI
  refine zP3 zMZ (zKM B w0 G) (by kernel_rfl) ((vc141l B w0 G vs vars i).mpr (zE2 (fun h => ?_) (fun h=>⟨?_,rfl,rfl,trivial⟩)))
  ·have h:=of_decide_eq_true h
   rw [zPA] at h
   have hi2:i<vs.length:=by omega
   refine ⟨⟨by omega,by rw [zPA]; omega⟩,vs[i],by rw [Int.toNat_natCast]; exact zPB hi2,zE2 (fun h2=>⟨fun h3 => ?_,rfl,trivial⟩) (fun h2=>⟨i+1,⟨⟨hi2,(zTR hi2 hg).2 (by simpa using h2)⟩,?_⟩,rfl,rfl,?_,.refl _⟩)⟩
   ·have:=(zTR hi2 hg).1 (zTS h3 (i+1))
    rw [this] at h2; simp at h2
   ·show vs.length - (i+1)<vs.length - i
    omega
   ·rw [show ((i:Int)+1)=((i+1:Nat):Int) by omega,zN8 (by omega) (by omega)]
  ·have h:=of_decide_eq_false h
   rw [zPA] at h
   rw [show i=vs.length by omega,List.take_length] at hg
   exact hg
 ·cases e with
  | exit j =>
   match j,kk with
   | 0,kk=>exact ⟨_,σ,(zJM kk.2).1,.refl _,hR1 kk.1 σ⟩
  | ret=>exact ⟨_,σ,(zJM kk.2).1,.refl _,hR2 kk.1 σ⟩
  | normal=>exact absurd rfl hne
  | _=>exact kk.elim
end
end Go.V
namespace Go.V
open Go Go.Proofs
variable (B:Nat) (w0:World) (G:Nat->AV)
structure zXV (c:Cl):Prop where
 small:zW1 c
 bulk:∀ x∈c.all,zWP x
def zXW (c:Cl):List AV:=[iZ c.mark,iZ c.vars,.slice 4 (tcellL c.head) .any,.slice 4 (tcellL c.guard) .any,.slice 4 (tcellL c.body) .any]
def C162:zJC:=fun args σ K=>∃ (c:Cl) (arity:Int),args=[clV c,iZ arity]/\(zXV c/\K (.bool (zSC c arity)) σ.untok)
def zXX (c:Cl) (No:Prop):LS Nat where
 F i:=[(2,.l 2 0),(7,.v (iZ (i:Int)))]
 FL _:=[(2,zXW c)]
 S _:=zJZ
 I i:=i<=c.guard.length/\(c.guard.take i).any zSA=false
 μ i:=c.guard.length - i
 Ex i e a σ:=match e with
  | .exit 0=>c.guard.any zSA=false/\atF a [(2,.l 2 0)] [(2,zXW c)] (zJZ.Le σ)
  | .ret=>No/\atF a [(4,.v (.bool false))] [] True
  | _=>False
def zXY (c:Cl) (No:Prop):LS Nat where
 F i:=[(2,.l 2 0),(9,.v (iZ (i:Int)))]
 FL _:=[(2,zXW c)]
 S _:=zJZ
 I i:=i<=c.body.length/\(c.body.take i).any zS9=false
 μ i:=c.body.length - i
 Ex i e a σ:=match e with
  | .exit 2=>c.body.any zS9=false/\atF a [(2,.l 2 0)] [(2,zXW c)] (zJZ.Le σ)
  | .ret=>No/\atF a [(4,.v (.bool false))] [] True
  | _=>False
def zXZ (hs gs:List Int) (No:Prop):LS Nat where
 F i:=[(13,.v (.slice 1 (zP9 hs) .any)),(14,.v (.slice 1 (zP9 gs) .any)),(15,.v (iZ (i:Int)))]
 FL _:=[]
 S _:=zJZ
 I i:=i<=gs.length/\((gs.take i).any fun v=>decide (v∉hs))=false
 μ i:=gs.length - i
 Ex i e a σ:=match e with
  | .exit 4=>(gs.any fun v=>decide (v∉hs))=false/\atF a [] [] (zJZ.Le σ)
  | .ret=>No/\atF a [(4,.v (.bool false))] [] True
  | _=>False
theorem zY0:zKE Tryz.prog [] 162=[.loop (lB 162 0),.loop (lB 162 1),.loop (lB 162 2)]:=by kernel_rfl
theorem zY1:zKA (.loop (lB 162 0))=some 8/\zKA (.loop (lB 162 1))=some 14/\zKA (.loop (lB 162 2))=some 22:=by constructor <;> (try constructor) <;> kernel_rfl
def N162:zIE:=hAt [(10,3,hT),(16,3,hT),(24,3,zTP)]
theorem vc162a (c:Cl) (No:Prop) (i:Nat):(wpX [] (EV B w0 G) (hnd (EV B w0 G) zHI zMU [(187,C187)]) nL (zHI 162) N162 (lB 162 0) ((zXX c No).post i) (frm ((zXX c No).F i) ((zXX c No).FL i)) zJZ) =
 (bcase (decide ((i:Int)<(List.length (tcellL (Cl.guard c)):Int)))
 (((0:Int)<=(i:Int)/\(i:Int)<(List.length (tcellL (Cl.guard c)):Int))/\∃ x0:T,AV.vptr (AV.cells (List.getD (tcellL (Cl.guard c)) (Int.toNat (↑i:Int)) AV.undef))=AV.vptr (tc x0)/\∃ t1:T,[AV.agg (tc x0)]=[AV.agg (tc t1)]/\bcase (!(zS4 t1))
 (No /\Rf (TV.v (AV.bool false))/\True)
 (∃ x'2:Nat,((x'2<=List.length (Cl.guard c)/\List.any (List.take x'2 (Cl.guard c)) zSA=false)/\LS.μ (zXX c No) x'2<LS.μ (zXX c No) i)/\Rf (TV.l 2 0)/\TV.v (iZ (IntKind.wrap .i64 ((i:Int)+1)))=TV.v (iZ (x'2:Int))/\Rf [iZ (Cl.mark c),iZ (Cl.vars c),sT (Cl.head c),sT (Cl.guard c),sT (Cl.body c)]/\zA6.Le ((zXX c No).3 x'2) (Ut zJZ)))
 (List.any (Cl.guard c) zSA=false/\Rf (TV.l 2 0)/\Rf [iZ (Cl.mark c),iZ (Cl.vars c),sT (Cl.head c),sT (Cl.guard c),sT (Cl.body c)]/\zA6.Le zJZ zJZ)):=by kernel_rfl
theorem vc162b (c:Cl) (No:Prop) (i:Nat):(wpX [] (EV B w0 G) (hnd (EV B w0 G) zHI zMU [(142,C142)]) nL (zHI 162) N162 (lB 162 1) ((zXY c No).post i) (frm ((zXY c No).F i) ((zXY c No).FL i)) zJZ) =
 (bcase (decide ((i:Int)<(List.length (tcellL (Cl.body c)):Int)))
 (((0:Int)<=(i:Int)/\(i:Int)<(List.length (tcellL (Cl.body c)):Int))/\∃ x0:T,AV.vptr (AV.cells (List.getD (tcellL (Cl.body c)) (Int.toNat (↑i:Int)) AV.undef))=AV.vptr (tc x0)/\∃ t1:T,[AV.agg (tc x0)]=[AV.agg (tc t1)]/\bcase (((Prod.fst (zRC t1)):Int)==0)
 (No /\Rf (TV.v (AV.bool false))/\True)
 (∃ x'2:Nat,((x'2<=List.length (Cl.body c)/\List.any (List.take x'2 (Cl.body c)) zS9=false)/\LS.μ (zXY c No) x'2<LS.μ (zXY c No) i)/\Rf (TV.l 2 0)/\TV.v (iZ (IntKind.wrap .i64 ((i:Int)+1)))=TV.v (iZ (x'2:Int))/\Rf [iZ (Cl.mark c),iZ (Cl.vars c),sT (Cl.head c),sT (Cl.guard c),sT (Cl.body c)]/\zA6.Le ((zXY c No).3 x'2) (Ut zJZ)))
 (List.any (Cl.body c) zS9=false/\Rf (TV.l 2 0)/\Rf [iZ (Cl.mark c),iZ (Cl.vars c),sT (Cl.head c),sT (Cl.guard c),sT (Cl.body c)]/\zA6.Le zJZ zJZ)):=by kernel_rfl
theorem vc162c (hs gs:List Int) (No:Prop) (i:Nat):(wpX [] (EV B w0 G) (hnd (EV B w0 G) zHI zMU [(149,C149v)]) nL (zHI 162) N162 (lB 162 2) ((zXZ hs gs No).post i) (frm ((zXZ hs gs No).F i) ((zXZ hs gs No).FL i)) zJZ) =
 (bcase (decide ((i:Int)<(List.length (zP9 gs):Int)))
 (((0:Int)<=(i:Int)/\(i:Int)<(List.length (zP9 gs):Int))/\∃ x0:Int,AV.vptr (AV.cells (List.getD (zP9 gs) (Int.toNat (↑i:Int)) AV.undef))=AV.vptr [iZ x0]/\∃ k1:Int,∃ vs2:List Int,[AV.slice 1 (zP9 hs) Cap.any,iZ x0]=[AV.slice 1 (zP9 vs2) Cap.any,iZ k1]/\List.length vs2<=1000000/\bcase (!(decide (k1∈vs2)))
 (No /\Rf (TV.v (AV.bool false))/\True)
 (∃ x'3:Nat,((x'3<=List.length gs/\(List.any (List.take x'3 gs) fun v=>decide ¬v∈hs)=false)/\LS.μ (zXZ hs gs No) x'3<LS.μ (zXZ hs gs No) i)/\Rf (TV.v (AV.slice 1 (zP9 hs) Cap.any))/\Rf (TV.v (AV.slice 1 (zP9 gs) Cap.any))/\TV.v (iZ (IntKind.wrap .i64 ((i:Int)+1)))=TV.v (iZ (x'3:Int))/\zA6.Le ((zXZ hs gs No).3 x'3) (Ut zJZ)))
 ((List.any gs fun v=>decide ¬v∈hs)=false/\zA6.Le zJZ zJZ)):=by kernel_rfl
def T162a (c:Cl) (No:Prop):zFV:=fun _ Q a σ=>atF a ((zXX c No).F 0) ((zXX c No).FL 0) (zJZ.Le σ)/\((c.guard.any zSA=false->Q (.exit 0) (frm [(2,.l 2 0)] [(2,zXW c)]) zJZ)/\(No->∀ σ':zA6,Q .ret (frm [(4,.v (.bool false))] []) σ'))
def T162b (c:Cl) (No:Prop):zFV:=fun _ Q a σ=>atF a ((zXY c No).F 0) ((zXY c No).FL 0) (zJZ.Le σ)/\((c.body.any zS9=false->Q (.exit 2) (frm [(2,.l 2 0)] [(2,zXW c)]) zJZ)/\(No->∀ σ':zA6,Q .ret (frm [(4,.v (.bool false))] []) σ'))
def T162c (hs gs:List Int) (No:Prop):zFV:=fun _ Q a σ=>atF a ((zXZ hs gs No).F 0) [] (zJZ.Le σ)/\(((gs.any fun v=>decide (v∉hs))=false->Q (.exit 4) (frm [] []) zJZ)/\(No->∀ σ':zA6,Q .ret (frm [(4,.v (.bool false))] []) σ'))
theorem vc162 (c:Cl) (arity:Int) (hs gs:List Int) (Na Nb Nc:Prop) (Q:AV->zA6->Prop):(zKD [] (EV B w0 G) (hnd (EV B w0 G) zHI zMU [(159,C159),(139,C139),(140,C140),(141,C141),(105,C105)]) (zKK [(8,T162a c Na),(14,T162b c Nb),(22,T162c hs gs Nc)]) zHI N162 162 [clV c,iZ arity] zJZ Q) =
 (∃ c0:Cl,[AV.agg [iZ (Cl.mark c),iZ (Cl.vars c),sT (Cl.head c),sT (Cl.guard c),sT (Cl.body c)]]=[AV.agg [iZ (Cl.mark c0),iZ (Cl.vars c0),sT (Cl.head c0),sT (Cl.guard c0),sT (Cl.body c0)]]/\(List.length (Cl.head c0)<=300000/\List.length (Cl.guard c0)<=300000/\List.length (Cl.body c0)<=300000)/\∃ l1:List T,[sT (Cl.all c0)]=[sT l1]/\(List.length l1<=1000000/\(∀ x2:T,((x2∈l1)->(zWP x2))))/\bcase (!(zS5 l1))
 (Q (AV.bool false) (Ut (Ut zJZ)))
 (∃ l2:List T,[sT (Cl.all c0)]=[sT l2]/\(List.length l2<=1000000/\(∀ x3:T,((x3∈l2)->(((zND x3):Int)=0)))/\(∀ x3:T,((x3∈l2)->(zWP x3))))/\bcase (decide ((sizeL l2:Int) > 400))
 (Q (AV.bool false) (Ut (Ut (Ut zJZ))))
 (∃ l3:List T,∃ vars4:Int,[sT (Cl.all c0),iZ (Cl.vars c)]=[sT l3,iZ vars4]/\(zS5 l3=true/\List.length l3<=1000000)/\bcase (!((zS8 l3 vars4)&&(decide ((vars4:Int)<=64))))
 (Q (AV.bool false) (Ut (Ut (Ut (Ut zJZ)))))
 (bcase (decide (((Cl.mark c):Int)<0))
 (Q (AV.bool false) (Ut (Ut (Ut (Ut zJZ)))))
 (bcase (decide (((Cl.mark c):Int) > 2))
 (Q (AV.bool false) (Ut (Ut (Ut (Ut zJZ)))))
 (bcase ((List.length (tcellL (Cl.head c)):Int) != arity)
 (Q (AV.bool false) (Ut (Ut (Ut (Ut zJZ)))))
 (bcase (decide ((List.length (tcellL (Cl.guard c)):Int) > 8))
 (Q (AV.bool false) (Ut (Ut (Ut (Ut zJZ)))))
 (bcase (decide ((List.length (tcellL (Cl.body c)):Int) > 16))
 (Q (AV.bool false) (Ut (Ut (Ut (Ut zJZ)))))
 ((Rf (TV.l 2 0)/\Rf (TV.v (iZ 0))/\Rf [iZ (Cl.mark c),iZ (Cl.vars c),sT (Cl.head c),sT (Cl.guard c),sT (Cl.body c)]/\zA6.Le zJZ (Ut (Ut (Ut (Ut zJZ)))))/\((List.any (Cl.guard c) zSA=false)->((Rf (TV.l 2 0)/\Rf (TV.v (iZ 0))/\Rf [iZ (Cl.mark c),iZ (Cl.vars c),sT (Cl.head c),sT (Cl.guard c),sT (Cl.body c)]/\zA6.Le zJZ zJZ)/\((List.any (Cl.body c) zS9=false)->(∃ l5:List T,[sT (Cl.head c)]=[sT l5]/\(zS5 l5=true/\List.length l5<=1000000)/\∃ l6:List T,[sT (Cl.guard c)]=[sT l6]/\(zS5 l6=true/\List.length l6<=1000000)/\(TV.v (AV.slice 1 (zP9 (zS7 l5)) Cap.any)=TV.v (AV.slice 1 (zP9 hs) Cap.any)/\TV.v (AV.slice 1 (zP9 (zS7 l6)) Cap.any)=TV.v (AV.slice 1 (zP9 gs) Cap.any)/\Rf (TV.v (iZ 0))/\zA6.Le zJZ (Ut (Ut zJZ)))/\(((List.any gs fun v=>decide ¬v∈hs)=false)->(Q (AV.bool true) zJZ))/\((Nc )->(∀ σ'7:zA6,Q (AV.bool false) σ'7))))/\((Nb )->(∀ σ'5:zA6,Q (AV.bool false) σ'5))))/\((Na )->(∀ σ'5:zA6,Q (AV.bool false) σ'5))))))))))):=by kernel_rfl
def C123:zJC:=fun args σ K=>∃ q:Qu,args=[quV q]/\((q.goals.length<=300000/\∀ x∈q.goals,zWP x)/\K (.bool (zSG q)) σ.untok)
def zY2 (q:Qu) (No:Prop):LS Nat where
 F i:=[(1,.l 1 0),(4,.v (iZ (i:Int)))]
 FL _:=[(1,[iZ q.vars,.slice 4 (tcellL q.goals) .any])]
 S _:=zJZ
 I i:=i<=q.goals.length/\(q.goals.take i).any zS9=false
 μ i:=q.goals.length - i
 Ex i e a σ:=match e with
  | .exit 0=>q.goals.any zS9=false/\atF a [] [] True
  | .ret=>No/\atF a [(2,.v (.bool false))] [] True
  | _=>False
theorem zY3:zKE Tryz.prog [] 123=[.loop (lB 123 0)]:=by kernel_rfl
def N123:zIE:=hAt [(7,3,hT)]
theorem vc123l (q:Qu) (No:Prop) (i:Nat):(wpX [] (EV B w0 G) (hnd (EV B w0 G) zHI zMU [(142,C142)]) nL (zHI 123) N123 (lB 123 0) ((zY2 q No).post i) (frm ((zY2 q No).F i) ((zY2 q No).FL i)) zJZ) =
 (bcase (decide ((i:Int)<(List.length (tcellL (Qu.goals q)):Int)))
 (((0:Int)<=(i:Int)/\(i:Int)<(List.length (tcellL (Qu.goals q)):Int))/\∃ x0:T,AV.vptr (AV.cells (List.getD (tcellL (Qu.goals q)) (Int.toNat (↑i:Int)) AV.undef))=AV.vptr (tc x0)/\∃ t1:T,[AV.agg (tc x0)]=[AV.agg (tc t1)]/\bcase (((Prod.fst (zRC t1)):Int)==0)
 (No /\Rf (TV.v (AV.bool false))/\True)
 (∃ x'2:Nat,((x'2<=List.length (Qu.goals q)/\List.any (List.take x'2 (Qu.goals q)) zS9=false)/\LS.μ (zY2 q No) x'2<LS.μ (zY2 q No) i)/\Rf (TV.l 1 0)/\TV.v (iZ (IntKind.wrap .i64 ((i:Int)+1)))=TV.v (iZ (x'2:Int))/\Rf [iZ (Qu.vars q),sT (Qu.goals q)]/\zA6.Le ((zY2 q No).3 x'2) (Ut zJZ)))
 (List.any (Qu.goals q) zS9=false/\True)):=by kernel_rfl
def T123 (q:Qu) (No:Prop):zFV:=fun _ Q a σ=>atF a ((zY2 q No).F 0) ((zY2 q No).FL 0) (zJZ.Le σ)/\((q.goals.any zS9=false->∀ σ':zA6,Q (.exit 0) (frm [] []) σ')/\(No->∀ σ':zA6,Q .ret (frm [(2,.v (.bool false))] []) σ'))
theorem vc123 (q:Qu) (No:Prop) (Q:AV->zA6->Prop):(zKD [] (EV B w0 G) (hnd (EV B w0 G) zHI zMU [(139,C139),(140,C140),(141,C141)]) (T123 q No) zHI N123 123 [quV q] zJZ Q) =
 (∃ l0:List T,[sT (Qu.goals q)]=[sT l0]/\(List.length l0<=1000000/\(∀ x1:T,((x1∈l0)->(zWP x1))))/\bcase (!(zS5 l0))
 (Q (AV.bool false) (Ut zJZ))
 (∃ l1:List T,[sT (Qu.goals q)]=[sT l1]/\(List.length l1<=1000000/\(∀ x2:T,((x2∈l1)->(((zND x2):Int)=0)))/\(∀ x2:T,((x2∈l1)->(zWP x2))))/\bcase (decide ((sizeL l1:Int) > 400))
 (Q (AV.bool false) (Ut (Ut zJZ)))
 (bcase (decide ((List.length (tcellL (Qu.goals q)):Int) > 16))
 (Q (AV.bool false) (Ut (Ut zJZ)))
 (∃ l2:List T,∃ vars3:Int,[sT (Qu.goals q),iZ (Qu.vars q)]=[sT l2,iZ vars3]/\(zS5 l2=true/\List.length l2<=1000000)/\bcase (!((zS8 l2 vars3)&&(decide ((vars3:Int)<=64))))
 (Q (AV.bool false) (Ut (Ut (Ut zJZ))))
 ((Rf (TV.l 1 0)/\Rf (TV.v (iZ 0))/\Rf [iZ (Qu.vars q),sT (Qu.goals q)]/\zA6.Le zJZ (Ut (Ut (Ut zJZ))))/\((List.any (Qu.goals q) zS9=false)->(∀ σ'4:zA6,Q (AV.bool true) σ'4))/\((No )->(∀ σ'4:zA6,Q (AV.bool false) σ'4))))))):=by kernel_rfl
structure zY4 (p:List Pr):Prop where
 len:p.length<=1000000
 cls:∀ q∈p,q.cls.length<=1000000
 cl:∀ q∈p,∀ c∈q.cls,zXV c
 name:∀ q∈p,q.name.size<=1099511627776
def C138:zJC:=fun args σ K=>∃ p:List Pr,args=[zSI p,.nilslice]/\(zY4 p/\K (.bool (zSF p)) σ.untok)
def zY5 (p:List Pr) (I:Nat->Prop) (No:Prop):LS Nat where
 F i:=[(1,.v .nilslice),(2,.l 2 0),(5,.v (iZ (i:Int)))]
 FL _:=[(2,[zW0 p])]
 S _:=zJZ
 I:=I
 μ i:=p.length - i
 Ex i e a σ:=match e with
  | .exit 0=>¬ (i<p.length)/\atF a [] [] True
  | .ret=>No/\atF a [(4,.v (.bool false))] [] True
  | _=>False
def zY6 (p:List Pr) (g:zW7) (I:Nat->Prop) (No:Prop):LS Nat where
 F j:=[(1,.v .nilslice),(2,.l 2 0),(5,.v (iZ (g.i:Int))),(6,.l 6 0),(9,.v (iZ (j:Int)))]
 FL _:=[(2,[zW0 p]),(6,[.str g.q.name,iZ g.q.arity,clsV g.q.cls])]
 S _:=zJZ
 I:=I
 μ j:=g.q.cls.length - j
 Ex j e a σ:=match e with
  | .exit 2=>¬ (j<g.q.cls.length)/\atF a [(1,.v .nilslice),(2,.l 2 0),(5,.v (iZ (g.i:Int)))] [(2,[zW0 p])] (zJZ.Le σ)
  | .ret=>No/\atF a [(4,.v (.bool false))] [] True
  | _=>False
theorem zY7:zKE Tryz.prog [] 138=[.loop (lB 138 0)]:=by kernel_rfl
theorem parts138:zKB [] (lB 138 0)=[.loop (zKH (zKJ [] (zKG Tryz.prog [] 138 0) 0))]:=by kernel_rfl
def N138:zIE:=hAt [(6,3,hPr),(14,3,hCl)]
theorem vc138i (p:List Pr) (q:Pr) (ip:Nat) (I:Nat->Prop) (No:Prop) (j:Nat):(wpX [] (EV B w0 G) (hnd (EV B w0 G) zHI zMU [(162,C162),(124,C124)]) nL (zHI 138) N138 (zKH (zKJ [] (zKG Tryz.prog [] 138 0) 0)) ((zY6 p ⟨q,ip⟩ I No).post j) (frm ((zY6 p ⟨q,ip⟩ I No).F j) ((zY6 p ⟨q,ip⟩ I No).FL j)) zJZ) =
 (bcase (decide ((j:Int)<(List.length (List.map clV (Pr.cls (zW7.q (zW7.mk q ip)))):Int)))
 (((0:Int)<=(j:Int)/\(j:Int)<(List.length (List.map clV (Pr.cls (zW7.q (zW7.mk q ip)))):Int))/\∃ x0:Cl,AV.vptr (AV.cells (List.getD (List.map clV (Pr.cls (zW7.q (zW7.mk q ip)))) (Int.toNat (↑j:Int)) AV.undef))=AV.vptr [iZ (Cl.mark x0),iZ (Cl.vars x0),sT (Cl.head x0),sT (Cl.guard x0),sT (Cl.body x0)]/\∃ c1:Cl,∃ arity2:Int,[AV.agg [iZ (Cl.mark x0),iZ (Cl.vars x0),sT (Cl.head x0),sT (Cl.guard x0),sT (Cl.body x0)],iZ (Pr.arity (zW7.q (zW7.mk q ip)))]=[AV.agg [iZ (Cl.mark c1),iZ (Cl.vars c1),sT (Cl.head c1),sT (Cl.guard c1),sT (Cl.body c1)],iZ arity2]/\zXV c1/\bcase (!(zSC c1 arity2))
 (No /\Rf (TV.v (AV.bool false))/\True)
 (∃ p3:List Pr,∃ l4:List T,[AV.agg [AV.slice 3 (List.map prV p) Cap.any],sT (Cl.body x0),AV.nilslice]=[AV.agg [AV.slice 3 (List.map prV p3) Cap.any],sT l4,AV.nilslice]/\(List.length p3<=1000000/\List.length l4<=1000000)/\bcase (!(List.all (zSD l4) fun s=>zR9 (List.map Pr.sym p3) (Prod.fst s) (Prod.snd s)))
 (No /\Rf (TV.v (AV.bool false))/\True)
 (∃ x'5:Nat,(I x'5/\((LS.μ (zY6 p (zW7.mk q ip) I No) x'5):Nat)<LS.μ (zY6 p (zW7.mk q ip) I No) j)/\Rf (TV.v AV.nilslice)/\Rf (TV.l 2 0)/\Rf (TV.v (iZ (zW7.i (zW7.mk q ip):Int)))/\Rf (TV.l 6 0)/\TV.v (iZ (IntKind.wrap .i64 ((j:Int)+1)))=TV.v (iZ (x'5:Int))/\Rf [AV.slice 3 (List.map prV p) Cap.any]/\Rf [AV.str (Pr.name (zW7.q (zW7.mk q ip))),iZ (Pr.arity (zW7.q (zW7.mk q ip))),AV.slice 5 (List.map clV (Pr.cls (zW7.q (zW7.mk q ip)))) Cap.any]/\zA6.Le ((zY6 p (zW7.mk q ip) I No).3 x'5) (Ut (Ut zJZ)))))
 (((j<List.length (Pr.cls (zW7.q (zW7.mk q ip))))->False)/\Rf (TV.v AV.nilslice)/\Rf (TV.l 2 0)/\Rf (TV.v (iZ (zW7.i (zW7.mk q ip):Int)))/\Rf [AV.slice 3 (List.map prV p) Cap.any]/\zA6.Le zJZ zJZ)):=by kernel_rfl
def T138i (p:List Pr) (P:zW7->Nat->Prop) (R:zW7->Prop) (No:Prop):zFV:=fun _ Q a σ=>∃ g:zW7,P g 0/\atF a ((zY6 p g (P g) No).F 0) ((zY6 p g (P g) No).FL 0) (zJZ.Le σ) /\
 ((R g->Q (.exit 2) (frm [(1,.v .nilslice),(2,.l 2 0),(5,.v (iZ (g.i:Int)))] [(2,[zW0 p])]) zJZ)/\(No->∀ σ':zA6,Q .ret (frm [(4,.v (.bool false))] []) σ'))
theorem vc138l (p:List Pr) (P:zW7->Nat->Prop) (R:zW7->Prop) (I:Nat->Prop) (No:Prop) (i:Nat):(wpX [] (EV B w0 G) (hnd (EV B w0 G) zHI zMU [(158,C158),(144,C144),(168,C168)]) (T138i p P R No) (zHI 138) N138 (lB 138 0) ((zY5 p I No).post i) (frm ((zY5 p I No).F i) ((zY5 p I No).FL i)) zJZ) =
 (bcase (decide ((i:Int)<(List.length (List.map prV p):Int)))
 (((0:Int)<=(i:Int)/\(i:Int)<(List.length (List.map prV p):Int))/\∃ x0:Pr,AV.vptr (AV.cells (List.getD (List.map prV p) (Int.toNat (↑i:Int)) AV.undef))=AV.vptr [AV.str (Pr.name x0),iZ (Pr.arity x0),AV.slice 5 (List.map clV (Pr.cls x0)) Cap.any]/\∃ s1:ByteArray,[AV.str (Pr.name x0)]=[AV.str s1]/\ByteArray.size s1<=1099511627776/\bcase (!(zNS s1))
 (No /\Rf (TV.v (AV.bool false))/\True)
 (bcase (decide (((Pr.arity x0):Int)<0))
 (No /\Rf (TV.v (AV.bool false))/\True)
 (bcase (decide (((Pr.arity x0):Int) > 16))
 (No /\Rf (TV.v (AV.bool false))/\True)
 (∃ p2:List Pr,∃ s3:ByteArray,∃ n4:Int,[AV.agg [AV.slice 3 (List.map prV p) Cap.any],AV.agg [AV.str (Pr.name x0),iZ (Pr.arity x0)]]=[AV.agg [AV.slice 3 (List.map prV p2) Cap.any],AV.agg [AV.str s3,iZ n4]]/\List.length p2<=1000000/\((zR9 (List.map Pr.sym p2) s3 n4=false)->(No /\Rf (TV.v (AV.bool false))/\True))/\(∀ i5:Nat,((zWV p2 i5 s3 n4)->(bcase ((i5:Int) != (i:Int))
 (No /\Rf (TV.v (AV.bool false))/\True)
 (∃ s6:ByteArray,∃ n7:Int,[AV.agg [AV.str (Pr.name x0),iZ (Pr.arity x0)]]=[AV.agg [AV.str s6,iZ n7]]/\bcase (zR9 (zR7++zVM) s6 n7)
 (No /\Rf (TV.v (AV.bool false))/\True)
 (bcase (decide ((List.length (List.map clV (Pr.cls x0)):Int) > 32))
 (No /\Rf (TV.v (AV.bool false))/\True)
 (∃ g8:zW7,P g8 0/\(Rf (TV.v AV.nilslice)/\Rf (TV.l 2 0)/\TV.v (iZ (i:Int))=TV.v (iZ (zW7.i g8:Int))/\Rf (TV.l 6 0)/\Rf (TV.v (iZ 0))/\Rf [AV.slice 3 (List.map prV p) Cap.any]/\[AV.str (Pr.name x0),iZ (Pr.arity x0),AV.slice 5 (List.map clV (Pr.cls x0)) Cap.any]=[AV.str (Pr.name (zW7.q g8)),iZ (Pr.arity (zW7.q g8)),AV.slice 5 (List.map clV (Pr.cls (zW7.q g8))) Cap.any]/\zA6.Le zJZ (Ut (Ut (Ut zJZ))))/\((R g8)->(∃ x'9:Nat,(I x'9/\LS.μ (zY5 p I No) x'9<LS.μ (zY5 p I No) i)/\Rf (TV.v AV.nilslice)/\Rf (TV.l 2 0)/\TV.v (iZ (IntKind.wrap .i64 ((zW7.i g8:Int)+1)))=TV.v (iZ (x'9:Int))/\Rf [AV.slice 3 (List.map prV p) Cap.any]/\zA6.Le ((zY5 p I No).3 x'9) zJZ))/\((No )->(∀ σ'9:zA6,No /\Rf (TV.v (AV.bool false))/\True))))))))))))
 (((i<List.length p)->False)/\True)):=by kernel_rfl
def T138 (p:List Pr) (I:Nat->Prop) (Yes No:Prop):zFV:=fun _ Q a σ=>(I 0/\atF a ((zY5 p I No).F 0) ((zY5 p I No).FL 0) (zJZ.Le σ))/\((Yes->∀ σ':zA6,Q (.exit 0) (frm [] []) σ')/\(No->∀ σ':zA6,Q .ret (frm [(4,.v (.bool false))] []) σ'))
theorem vc138 (p:List Pr) (I:Nat->Prop) (Yes No:Prop) (Q:AV->zA6->Prop):(zKD [] (EV B w0 G) (H0 (EV B w0 G)) (T138 p I Yes No) zHI N138 138 [zSI p,.nilslice] zJZ Q) =
 (bcase (decide ((List.length (List.map prV p):Int) > 64))
 (Q (AV.bool false) zJZ)
 ((I 0/\Rf (TV.v AV.nilslice)/\Rf (TV.l 2 0)/\Rf (TV.v (iZ 0))/\Rf [AV.slice 3 (List.map prV p) Cap.any]/\zA6.Le zJZ zJZ)/\((Yes )->(∀ σ'0:zA6,Q (AV.bool true) σ'0))/\((No )->(∀ σ'0:zA6,Q (AV.bool false) σ'0)))):=by kernel_rfl
def C122:zJC:=fun args σ K=>∃ p:List Pr,args=[zSI p]/\(zY4 p/\K (.bool (zSF p)) σ.untok)
theorem vc122 (p:List Pr) (Q:AV->zA6->Prop):(zKD [] (EV B w0 G) (hnd (EV B w0 G) zHI zMU [(138,C138)]) nL zHI zMV 122 [zSI p] zJZ Q) =
 (∃ p0:List Pr,[AV.agg [AV.slice 3 (List.map prV p) Cap.any],AV.nilslice]=[AV.agg [AV.slice 3 (List.map prV p0) Cap.any],AV.nilslice]/\zY4 p0/\Q (AV.bool (zSF p0)) (Ut zJZ)):=by kernel_rfl
def C80:zJC:=fun args σ K=>∃ (p:List Pr) (q:Qu),args=[zSI p,quV q]/\((zY4 p/\q.goals.length<=300000/\∀ x∈q.goals,zWP x)/\K (iZ (if zSH p q=true then 0 else 5)) σ.untok)
theorem vc80 (p:List Pr) (q:Qu) (Q:AV->zA6->Prop):(zKD [] (EV B w0 G) (hnd (EV B w0 G) zHI zMU [(122,C122),(123,C123),(124,C124)]) nL zHI zMV 80 [zSI p,quV q] zJZ Q) =
 (∃ p0:List Pr,[AV.agg [AV.slice 3 (List.map prV p) Cap.any]]=[AV.agg [AV.slice 3 (List.map prV p0) Cap.any]]/\zY4 p0/\∃ q1:Qu,[AV.agg [iZ (Qu.vars q),sT (Qu.goals q)]]=[AV.agg [iZ (Qu.vars q1),sT (Qu.goals q1)]]/\(List.length (Qu.goals q1)<=300000/\(∀ x2:T,((x2∈Qu.goals q1)->(zWP x2))))/\bcase (!(zSF p0))
 (Q (iZ 5) (Ut (Ut zJZ)))
 (bcase (!(zSG q1))
 (Q (iZ 5) (Ut (Ut zJZ)))
 (∃ p2:List Pr,∃ l3:List T,[AV.agg [AV.slice 3 (List.map prV p) Cap.any],sT (Qu.goals q),AV.nilslice]=[AV.agg [AV.slice 3 (List.map prV p2) Cap.any],sT l3,AV.nilslice]/\(List.length p2<=1000000/\List.length l3<=1000000)/\bcase (!(List.all (zSD l3) fun s=>zR9 (List.map Pr.sym p2) (Prod.fst s) (Prod.snd s)))
 (Q (iZ 5) (Ut (Ut (Ut zJZ))))
 (Q (iZ 0) (Ut (Ut (Ut zJZ))))))):=by kernel_rfl
end Go.V
