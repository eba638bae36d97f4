/- A part of the proof of the statement S8 (texts brought together and shortened by a program of this work). -/
import Derived.Test.YtgnjidopnplbbaaGreatDoorQ26
set_option maxRecDepth 1000000
set_option linter.unusedVariables false
set_option linter.unusedSimpArgs false
set_option linter.unusedSectionVars false
namespace Go.V
open Go Go.Proofs

theorem zTR {vs:List Int} {i:Nat} (h:i<vs.length) (h1:zTN (vs.take i)):zTN (vs.take (i+1))↔vs[i]=(i:Int):=by
 have h1:=h1.eq
 have e1:(vs.take (i+1)).length=i+1:=by rw [List.length_take]; omega
 have e2:(vs.take i).length=i:=by rw [List.length_take]; omega
 rw [e2] at h1
 have e3:vs.take (i+1)=(List.range i).map (fun i:Nat=>(i:Int))++[vs[i]]:=by rw [List.take_succ_eq_append_getElem h,<-h1]
 have e4:(List.range (i+1)).map (fun i:Nat=>(i:Int))=(List.range i).map (fun i:Nat=>(i:Int))++[(i:Int)]:=by rw [List.range_succ,List.map_append]; rfl
 constructor
 ·intro k
  have k:=k.eq
  rw [e1,e3,e4] at k
  simpa using List.append_inj_right k rfl
 ·intro k
  refine ⟨?_⟩
  rw [e1,e3,e4,k]
theorem zTS {vs:List Int} (h:zTN vs) (i:Nat):zTN (vs.take i):=by
 refine ⟨?_⟩
 rw [List.length_take]
 have:=congrArg (List.take i) h.eq
 rw [this,<-List.map_take,List.take_range]
theorem zTT {l:List T} (h:zS5 l=true):(nodesTL l).length<=4000:=by
 rw [nodesTL_size]; exact (zT6.1 h).2
theorem zTU {P:T->Bool}:∀ {l:List T} (h:l.length=2),l.all P=(P (l[0]'(by omega))&&P (l[1]'(by omega)))
 | [a,c],_=>by simp
def zTV:List (AV×AV):=zRE (.int .i64) zS2
def zTW:List (AV×AV):=zRE (fun _ => .bool true) zS3
theorem zTX (s:ByteArray):∃ x:Int×Bool,zI9 Tryz.prog 301 zTV (.str s) true (.tuple [iZ x.1,.bool x.2])/\(∀ n:Int,zR9 zS2 s n=(x.2&&(n==x.1)))/\(x.2=true->∀ n,zR9 zS3 s n=false):=by
 have hs:=zRI (l:=zS2) (by decide) s
 have hm:=zRH 301 3 (iZ 0) (.int .i64) zS2 s true _ (by kernel_rfl) ⟨_,rfl,rfl⟩ rfl
 cases h:zRF zS2 s with
 | some m =>
  rw [h] at hm
  refine ⟨(m,true),hm,fun n=>by
   rw [hs n,h,Bool.true_and]
   show decide (m=n)=decide (n=m)
   exact decide_eq_decide.2 ⟨fun e=>e.symm,fun e=>e.symm⟩,fun _ n => ?_⟩
  obtain ⟨y,hy,hys⟩:∃ y∈zS2,s=y.1:=by
   unfold zRF at h
   cases hf:zS2.find? (fun x=>zAI s x.1) with
   | none=>rw [hf] at h; cases h
   | some y=>exact ⟨y,List.mem_of_find?_eq_some hf,zRD.1 (by simpa using List.find?_some hf)⟩
  have hd:∀ a∈zS2,∀ b∈zS3,a.1≠b.1:=by decide
  unfold zR9
  rw [List.any_eq_false]
  intro z hz hz2
  rw [Bool.and_eq_true] at hz2
  exact hd y hy z hz (by rw [<-hys,zRD.1 hz2.1])
 | none =>
  rw [h] at hm
  exact ⟨(0,false),hm,fun n=>by rw [hs n,h]; rfl,fun e=>by cases e⟩
theorem zTY (s:ByteArray):∃ b:Bool,zI9 Tryz.prog 308 zTW (.str s) false (.bool b)/\∀ n:Int,zR9 zS3 s n=(b&&(n==2)):=by
 have hs:=zRI (l:=zS3) (by decide) s
 have hm:=zRH 308 4 (.bool false) (fun _ => .bool true) zS3 s false _ (by kernel_rfl) ⟨_,zer4.choose_spec.1,zer4.choose_spec.2⟩ rfl
 cases h:zRF zS3 s with
 | some m =>
  rw [h] at hm
  have h2:m=2:=by
   unfold zRF at h
   cases hf:zS3.find? (fun x=>zAI s x.1) with
   | none=>rw [hf] at h; cases h
   | some y =>
    rw [hf] at h
    have hy:=List.mem_of_find?_eq_some hf
    have hall:∀ z∈zS3,z.2=2:=by decide
    have:=hall y hy
    cases h; exact this
  subst h2
  exact ⟨true,hm,fun n=>by
   rw [hs n,h,Bool.true_and]
   show decide (2=n)=decide (n=2)
   exact decide_eq_decide.2 ⟨fun e=>e.symm,fun e=>e.symm⟩⟩
 | none =>
  rw [h] at hm
  exact ⟨false,hm,fun n=>by rw [hs n,h]; rfl⟩

section
variable {B:Nat} {w0:World} {G:Nat->AV}
variable (hG:∀ i,zJV (G i))
include hG
theorem zTZ:zJD (EV B w0 G) 127 C127:=by
 rintro args σ Q ⟨l,rfl,⟨ht,hlen⟩,hQ⟩
 refine zN1 hG (fun v hv => ?_) (.tuple fun x hx => ?_) (fun Q hQ => ?_) hQ
 ·simp only [List.mem_cons,List.not_mem_nil,or_false] at hv
  subst hv; exact zQI l
 ·simp only [List.mem_cons,List.not_mem_nil,or_false] at hx
  rcases hx with rfl | rfl
  ·exact zPC _
  ·exact .int _ _
 have hn:=zTT ht
 refine zKF (cuts:=[]) (zKM B w0 G) (zJJ (zKM B w0 G) (zJI (zTB hG) (zJI (c148x_ok hG) zJH))) (fun lp hl _ Q a' σ' kk=>kk.elim) ((vc127 B w0 G l Q).mpr ⟨l,rfl,hlen,?_⟩)
 rw [if_pos ht]
 exact ⟨l,rfl,by omega,hQ _⟩
theorem zU0:zJD (EV B w0 G) 191 C191:=by
 rintro args σ Q ⟨l,vars,rfl,⟨ht,hlen⟩,hQ⟩
 refine zN1 hG (fun v hv => ?_) (.bool _) (fun Q hQ => ?_) hQ
 ·simp only [List.mem_cons,List.not_mem_nil,or_false] at hv
  rcases hv with rfl | rfl
  ·exact zQI l
  ·exact .int _ _
 have hn:=zTT ht
 have hvl:=zTF l
 unfold zS8 at hQ
 refine zKF (cuts:=[]) (zKM B w0 G) (zJJ (zKM B w0 G) (zJI (zTZ hG) zJH)) (fun lp hl _ Q a' σ kk => ?_) ((vc191 B w0 G l vars Q).mpr ⟨l,rfl,⟨ht,hlen⟩,⟨rfl,rfl,rfl,by rw [zPA],rfl,zSM⟩,fun h σ' => ?_,fun h σ' => ?_⟩)
 rotate_left
 ·rw [decide_eq_true h.eq,Bool.true_and] at hQ
  rw [zPA]; exact hQ σ'
 ·rw [decide_eq_false (fun k=>h ⟨k⟩),Bool.false_and] at hQ
  exact hQ σ'
 change lp∈zKE Tryz.prog [] 191 at hl
 rw [zTQ] at hl
 simp only [List.mem_cons,List.not_mem_nil,or_false] at hl
 subst hl
 obtain ⟨hat,hR1,hR2⟩:=kk
 generalize zS7 l=vs at *
 refine zK5 (zTO vs vars) (x0:=0) (fun i hI => ?_) (fun i hI e a' σ hne kk => ?_) ⟨Nat.zero_le _,⟨rfl⟩⟩ hat
 ·obtain ⟨hi,hg⟩:i<=vs.length/\zTN (vs.take i):=hI
  refine zP3 zMZ (zKM B w0 G) (by kernel_rfl) ((vc191l B w0 G vs vars i).mpr (zE2 (fun h => ?_) (fun h=>⟨?_,rfl,rfl,trivial⟩)))
  ·have h:=of_decide_eq_true h
   have hi2:i<vs.length:=by omega
   refine ⟨⟨by omega,by rw [zPA]; omega⟩,vs[i],?_,zE2 (fun h2=>⟨fun h3 => ?_,rfl,trivial⟩) (fun h2=>⟨i+1,⟨⟨hi2,(zTR hi2 hg).2 (by simpa using h2)⟩,?_⟩,rfl,rfl,rfl,rfl,?_,.refl _⟩)⟩
   ·rw [Int.toNat_natCast]
    unfold zP9
    rw [List.getD_eq_getElem?_getD,List.getElem?_map,List.getElem?_eq_getElem hi2]; rfl
   ·have:=(zTR hi2 hg).1 (zTS h3 (i+1))
    rw [this] at h2; simp at h2
   ·show vs.length - (i+1)<vs.length - i
    omega
   ·rw [show ((i:Int)+1)=((i+1:Nat):Int) by omega,zN8 (by omega) (by omega)]
  ·have h:=of_decide_eq_false h
   rw [show i=vs.length by omega,List.take_length] at hg
   exact hg
 ·cases e with
  | exit j =>
   match j,kk with
   | 0,kk=>exact ⟨_,σ,(zJM kk.2).1,.refl _,hR1 kk.1 σ⟩
  | ret=>exact ⟨_,σ,(zJM kk.2).1,.refl _,hR2 kk.1 σ⟩
  | normal=>exact absurd rfl hne
  | _=>exact kk.elim
omit hG in
theorem c238_ok:zJD (EV B w0 G) 238 (C238 zTV):=by
 rintro args σ Q ⟨rfl,rfl,hQ⟩
 refine zKF (cuts:=[]) (zKM B w0 G) zMZ (fun lp hl _ Q a' σ' kk=>kk.elim) ((vc238 B w0 G Q).mpr ?_)
 have e:∀ o o':zA5,zA6.set (zA6.new zJZ o) 0 o'=zA6.new zJZ o':=fun o o'=>zA6.new_set zJZ o o'
 simp only [e]
 exact hQ
omit hG in
theorem c239_ok:zJD (EV B w0 G) 239 (C239v zTW):=by
 rintro args σ Q ⟨rfl,⟨es,rfl⟩,hQ⟩
 refine zKF (cuts:=[]) (zKM B w0 G) zMZ (fun lp hl _ Q a' σ' kk=>kk.elim) ((vc239 B w0 G es Q).mpr ?_)
 have e:∀ o o':zA5,zA6.set (zA6.new (zA6.new zJZ (.map es)) o) 1 o'=zA6.new (zA6.new zJZ (.map es)) o':=fun o o'=>zA6.new_set (zA6.new zJZ (.map es)) o o'
 simp only [e]
 exact hQ
omit hG in
theorem c233_ok (N:Nat):zJD (EV B w0 G1) 233 (C233 N):=by
 rintro args σ Q ⟨t,rfl,⟨hsm,hN⟩,hQ⟩
 refine zN1 zLR (fun v hv => ?_) (.bool _) (fun Q hQ => ?_) hQ
 ·simp only [List.mem_cons,List.not_mem_nil,or_false] at hv
  subst hv; exact zMK t
 obtain ⟨x,hx,hs,hd⟩:=zTX t.s
 obtain ⟨b,hb,hc⟩:=zTY t.s
 have hH:zIP (EV B w0 G1) (H233 (EV B w0 G1) N zTV zTW):=zJJ (zKM B w0 G1) (zJI c238_ok (zJI c239_ok (zJI (zRS zLR) (zJI (zSV N) zJH))))
 have hm:∀ y∈t.l,y.small/\SizeOf.sizeOf y<N:=fun y hy=>⟨T.small_mem hsm hy,by have:=T.sizeOf_mem hy; omega⟩
 unfold zS4 at hQ
 refine zKF (cuts:=[]) (zKM B w0 G1) hH (fun lp hl _ Q a' σ' kk=>kk.elim) ((vc233 B w0 N zTV zTW t Q).mpr ⟨t,_,rfl,zE2 (fun h1 => ?_) (fun h1=>zE2 (fun h2 => ?_) (fun h2=>⟨rfl,rfl,zTV,rfl,_,hx,x,rfl,rfl,rfl,zE2 (fun h3 => ?_) (fun h3=>⟨rfl,⟨_,rfl⟩,zTW,rfl,_,hb,b,rfl,?_⟩)⟩))⟩)
 ·rw [show isA t zR8=true from h1] at hQ; exact hQ _
 all_goals rw [show isA t zR8=false from h1,Bool.false_or] at hQ
 ·have h2:t.k≠5:=by simpa using h2
  rw [decide_eq_false h2,Bool.false_and] at hQ; exact hQ _
 all_goals
  have h2:t.k=5:=by simpa using h2
  rw [decide_eq_true h2,Bool.true_and,hs] at hQ
  rw [zMH]
 ·rw [hd h3,Bool.false_and,Bool.or_false,h3,Bool.true_and] at hQ; exact hQ _
 rw [h3,Bool.false_and,Bool.false_or,hc] at hQ
 refine zE2 (fun h4=>zE2 (fun h5 => ?_) (fun h5 => ?_)) (fun h4 => ?_)
 ·have h5':t.l.length=2:=by
   have:(t.l.length:Int)=2:=by simpa using h5
   omega
  have e0:=hm _ (List.getElem_mem (show 0<t.l.length by omega))
  have e1:=hm _ (List.getElem_mem (show 1<t.l.length by omega))
  have hall:t.l.all zRZ=(zRZ t.l[0]&&zRZ t.l[1]):=zTU h5'
  rw [h4,h5,Bool.true_and,Bool.true_and,hall] at hQ
  refine ⟨⟨by omega,by omega⟩,t.l[0],zNA (by omega),rfl,rfl,t.l[0],rfl,e0,zE2 (fun h6=>⟨⟨by omega,by omega⟩,t.l[1],zNA (by omega),t.l[1],rfl,e1,?_⟩) (fun h6 => ?_)⟩
  ·rw [h6,Bool.true_and] at hQ; exact hQ _
  ·rw [h6,Bool.false_and] at hQ; exact hQ _
 ·rw [h5,Bool.and_false,Bool.false_and] at hQ; exact ⟨rfl,rfl,hQ _⟩
 ·rw [h4,Bool.false_and,Bool.false_and] at hQ; exact ⟨rfl,rfl,hQ _⟩
omit hG in
theorem c232_ok (N:Nat):zJD (EV B w0 G1) 232 (CP zSA fun t=>t.small/\SizeOf.sizeOf t<N):=by
 rintro args σ Q ⟨t,rfl,hR,hQ⟩
 refine zN1 zLR (fun v hv => ?_) (.bool _) (fun Q hQ => ?_) hQ
 ·simp only [List.mem_cons,List.not_mem_nil,or_false] at hv
  subst hv; exact zMK t
 exact zKF (cuts:=[]) (zKM B w0 G1) (zJJ (zKM B w0 G1) (zJI (c233_ok N) zJH)) (fun lp hl _ Q a' σ' kk=>kk.elim) ((vc232 B w0 G1 N t Q).mpr ⟨t,rfl,hR,hQ _⟩)
end
end Go.V
namespace Go.V
open Go Go.Proofs
variable (B:Nat) (w0:World) (G:Nat->AV)
def C237:zJC:=fun args σ K=>∃ (vs:List Int) (v:Int),args=[.slice 1 (zP9 vs) .any,iZ v]/\(vs.length<=1000000/\((v∈vs->∀ i:Nat,i<vs.length->K (iZ (i:Int)) σ.untok)/\(v∉vs->K (iZ (-1)) σ.untok)))
def C231:zJC:=fun args σ K=>∃ (vs:List Int) (v:Int),args=[.slice 1 (zP9 vs) .any,iZ v]/\(vs.length<=1000000/\K (.bool (decide (v∈vs))) σ.untok)
def zU1 (vs:List Int) (v:Int):LS Nat where
 F i:=[(0,.v (.slice 1 (zP9 vs) .any)),(1,.v (iZ v)),(7,.v (iZ (vs.length:Int))),(8,.v (iZ (i:Int)))]
 FL _:=[]
 S _:=zJZ
 I i:=i<=vs.length/\v∉vs.take i
 μ i:=vs.length - i
 Ex i e a σ:=match e with
  | .exit 0=>v∉vs/\atF a [] [] True
  | .ret=>(v∈vs/\i<vs.length)/\atF a [(4,.v (iZ (i:Int)))] [] True
  | _=>False
def N237:zIE:=hAt [(4,3,zTP)]
theorem zU2:zKE Tryz.prog [] 237=[.loop (lB 237 0)]:=by kernel_rfl
theorem vc237l (vs:List Int) (v:Int) (i:Nat):(wpX [] (EV B w0 G) (H0 (EV B w0 G)) nL (zHI 237) N237 (lB 237 0) ((zU1 vs v).post i) (frm ((zU1 vs v).F i) []) zJZ) =
 (bcase (decide ((i:Int)<(List.length vs:Int)))
 (((0:Int)<=(i:Int)/\(i:Int)<(List.length (zP9 vs):Int))/\∃ x0:Int,AV.vptr (AV.cells (List.getD (zP9 vs) (Int.toNat (↑i:Int)) AV.undef))=AV.vptr [iZ x0]/\bcase ((v:Int)==x0)
 ((v∈vs/\i<List.length vs)/\Rf (TV.v (iZ (i:Int)))/\True)
 (∃ x'1:Nat,((x'1<=List.length vs/\((v∈List.take x'1 vs)->False))/\LS.μ (zU1 vs v) x'1<LS.μ (zU1 vs v) i)/\Rf (TV.v (AV.slice 1 (zP9 vs) Cap.any))/\Rf (TV.v (iZ v))/\Rf (TV.v (iZ (List.length vs:Int)))/\TV.v (iZ (IntKind.wrap .i64 ((i:Int)+1)))=TV.v (iZ (x'1:Int))/\zA6.Le ((zU1 vs v).3 x'1) zJZ))
 (((v∈vs)->False)/\True)):=by kernel_rfl
def T237 (vs:List Int) (v:Int):zFV:=fun _ Q a σ=>atF a ((zU1 vs v).F 0) [] (zJZ.Le σ)/\((v∉vs->∀ σ':zA6,Q (.exit 0) (frm [] []) σ')/\(v∈vs->∀ i:Nat,i<vs.length->∀ σ':zA6,Q .ret (frm [(4,.v (iZ (i:Int)))] []) σ'))
theorem vc237 (vs:List Int) (v:Int) (Q:AV->zA6->Prop):(zKD [] (EV B w0 G) (H0 (EV B w0 G)) (T237 vs v) zHI N237 237 [.slice 1 (zP9 vs) .any,iZ v] zJZ Q) =
 ((Rf (TV.v (AV.slice 1 (zP9 vs) Cap.any))/\Rf (TV.v (iZ v))/\TV.v (iZ (List.length (zP9 vs):Int))=TV.v (iZ (List.length vs:Int))/\Rf (TV.v (iZ 0))/\zA6.Le zJZ zJZ)/\(((v∈vs)->False)->(∀ σ'0:zA6,Q (iZ (-1)) σ'0))/\((v∈vs)->(∀ i0:Nat,((i0<List.length vs)->(∀ σ'1:zA6,Q (iZ (i0:Int)) σ'1))))):=by kernel_rfl
theorem vc231 (vs:List Int) (v:Int) (Q:AV->zA6->Prop):(zKD [] (EV B w0 G) (hnd (EV B w0 G) zHI zMU [(237,C237)]) nL zHI zMV 231 [.slice 1 (zP9 vs) .any,iZ v] zJZ Q) =
 (∃ vs0:List Int,∃ v1:Int,[AV.slice 1 (zP9 vs) Cap.any,iZ v]=[AV.slice 1 (zP9 vs0) Cap.any,iZ v1]/\List.length vs0<=1000000/\((v1∈vs0)->(∀ i2:Nat,((i2<List.length vs0)->(Q (AV.bool true) (Ut zJZ)))))/\(((v1∈vs0)->False)->(Q (AV.bool false) (Ut zJZ)))):=by kernel_rfl
def zU3 (b:Nat) (hs:List Int) (σ:zA6):Prop:=∃ g,σ.objs b = .cells [.slice 1 (zP9 hs) .any] 26 1 g
def C230 (b:Nat) (hs:List Int):zJC:=fun args σ K=>∃ v:Int,args=[iZ v,.ptr b 0]/\((hs.length<=1000000/\zU3 b hs σ)/\∀ σ':zA6,zU3 b hs σ'->K (.bool (decide (v∉hs))) σ')
def N230 (hs:List Int):zIE:=hAt [(1,0,zIB.of (fun g:Bool=>zA5.cells [.slice 1 (zP9 hs) .any] 26 1 g))]
theorem vc230 (b:Nat) (hs:List Int) (v:Int) (σ:zA6) (Q:AV->zA6->Prop):(zKD [] (EV B w0 G) (hnd (EV B w0 G) zHI zMU [(231,C231)]) nL zHI (N230 hs) 230 [iZ v,.ptr b 0] σ Q) =
 (∃ a0:Bool,zA6.objs σ b=zA5.cells [AV.slice 1 (zP9 hs) Cap.any] 26 1 a0/\(0:Nat)<1/\∃ vs1:List Int,∃ v2:Int,[AV.slice 1 (zP9 hs) Cap.any,iZ v]=[AV.slice 1 (zP9 vs1) Cap.any,iZ v2]/\List.length vs1<=1000000/\Q (AV.bool (!(decide (v2∈vs1)))) (Ut σ)):=by kernel_rfl
def zU4 (b:Nat):AV:=.func (.func 230) [] [.ptr b 0]
def C236 (b:Nat) (hs:List Int):zJC:=fun args σ K=>∃ vs:List Int,args=[.slice 1 (zP9 vs) .any,zU4 b]/\(((vs.length<=1000000/\hs.length<=1000000)/\zU3 b hs σ)/\(((∃ v∈vs,v∉hs)->∀ (i:Nat) (σ':zA6),i<vs.length->zU3 b hs σ'->K (iZ (i:Int)) σ')/\((∀ v∈vs,v∈hs)->∀ σ':zA6,zU3 b hs σ'->K (iZ (-1)) σ')))
def C229 (b:Nat) (hs:List Int):zJC:=fun args σ K=>∃ vs:List Int,args=[.slice 1 (zP9 vs) .any,zU4 b]/\(((vs.length<=1000000/\hs.length<=1000000)/\zU3 b hs σ)/\∀ σ':zA6,zU3 b hs σ'->K (.bool (vs.any fun v=>decide (v∉hs))) σ')
structure zU5 where
 σ:zA6
 i:Nat
def zU6 (b:Nat) (vs:List Int) (I:zU5->Prop) (X:Exit->zU5->Prop):LS zU5 where
 F y:=[(0,.v (.slice 1 (zP9 vs) .any)),(1,.v (zU4 b)),(7,.v (iZ (vs.length:Int))),(8,.v (iZ (y.i:Int)))]
 FL _:=[]
 S y:=y.σ
 I:=I
 μ y:=vs.length - y.i
 Ex y e a σ:=match e with
  | .exit 0=>X (.exit 0) y/\atF a [] [] (y.σ.Le σ)
  | .ret=>∃ σ1:zA6,X .ret ⟨σ1,y.i⟩/\atF a [(4,.v (iZ (y.i:Int)))] [] (σ1.Le σ)
  | _=>False
theorem zU7:zKE Tryz.prog [] 236=[.loop (lB 236 0)]:=by kernel_rfl
def N236:zIE:=hAt [(4,3,zTP)]
theorem vc236l (b:Nat) (hs vs:List Int) (I:zU5->Prop) (X:Exit->zU5->Prop) (y:zU5):(wpX [] (EV B w0 G) (hnd (EV B w0 G) zHI zMU [(230,C230 b hs)]) nL (zHI 236) N236 (lB 236 0) ((zU6 b vs I X).post y) (frm ((zU6 b vs I X).F y) []) y.σ) =
 (bcase (decide ((zU5.i y:Int)<(List.length vs:Int)))
 (((0:Int)<=(zU5.i y:Int)/\(zU5.i y:Int)<(List.length (zP9 vs):Int))/\∃ x0:Int,AV.vptr (AV.cells (List.getD (zP9 vs) (Int.toNat (↑(zU5.i y):Int)) AV.undef))=AV.vptr [iZ x0]/\∃ v1:Int,[iZ x0,AV.ptr b 0]=[iZ v1,AV.ptr b 0]/\(List.length hs<=1000000/\∃ g2:Bool,zA6.objs y.1 b=zA5.cells [AV.slice 1 (zP9 hs) Cap.any] 26 1 g2)/\(∀ σ'2:zA6,((∃ g3:Bool,zA6.objs σ'2 b=zA5.cells [AV.slice 1 (zP9 hs) Cap.any] 26 1 g3)->(bcase (decide ¬v1∈hs)
 (∃ σ13:zA6,X Go.Exit.ret ({ σ:=σ13,i:=zU5.i y })/\Rf (TV.v (iZ (zU5.i y:Int)))/\zA6.Le σ13 σ'2)
 (∃ x'3:zU5,(I x'3/\LS.μ (zU6 b vs I X) x'3<LS.μ (zU6 b vs I X) y)/\Rf (TV.v (AV.slice 1 (zP9 vs) Cap.any))/\Rf (TV.v (AV.func (Go.Fn.func 230) [] [AV.ptr b 0]))/\Rf (TV.v (iZ (List.length vs:Int)))/\TV.v (iZ (IntKind.wrap .i64 ((zU5.i y:Int)+1)))=TV.v (iZ (zU5.i x'3:Int))/\zA6.Le ((zU6 b vs I X).3 x'3) σ'2)))))
 (X (Go.Exit.exit 0) y/\zA6.Le y.1 y.1)):=by kernel_rfl
def T236 (b:Nat) (vs:List Int) (I:zU5->Prop) (X:Exit->zU5->Prop):zFV:=fun _ Q a σ=>∃ y:zU5,I y/\atF a ((zU6 b vs I X).F y) [] (y.σ.Le σ)/\((∀ y':zU5,X (.exit 0) y'->Q (.exit 0) (frm [] []) y'.σ)/\(∀ y':zU5,X .ret y'->Q .ret (frm [(4,.v (iZ (y'.i:Int)))] []) y'.σ))
theorem vc236 (b:Nat) (hs vs:List Int) (I:zU5->Prop) (X:Exit->zU5->Prop) (σ:zA6) (Q:AV->zA6->Prop):(zKD [] (EV B w0 G) (hnd (EV B w0 G) zHI zMU [(230,C230 b hs)]) (T236 b vs I X) zHI N236 236 [.slice 1 (zP9 vs) .any,zU4 b] σ Q) =
 (∃ y0:zU5,I y0/\(Rf (TV.v (AV.slice 1 (zP9 vs) Cap.any))/\Rf (TV.v (AV.func (Go.Fn.func 230) [] [AV.ptr b 0]))/\TV.v (iZ (List.length (zP9 vs):Int))=TV.v (iZ (List.length vs:Int))/\TV.v (iZ 0)=TV.v (iZ (zU5.i y0:Int))/\zA6.Le y0.1 σ)/\(∀ y'1:zU5,((X (Go.Exit.exit 0) y'1)->(Q (iZ (-1)) y'1.1)))/\(∀ y'1:zU5,((X Go.Exit.ret y'1)->(Q (iZ (zU5.i y'1:Int)) y'1.1)))):=by kernel_rfl
theorem vc229 (b:Nat) (hs vs:List Int) (σ:zA6) (Q:AV->zA6->Prop):(zKD [] (EV B w0 G) (hnd (EV B w0 G) zHI zMU [(236,C236 b hs)]) nL zHI zMV 229 [.slice 1 (zP9 vs) .any,zU4 b] σ Q) =
 (∃ vs0:List Int,[AV.slice 1 (zP9 vs) Cap.any,AV.func (Go.Fn.func 230) [] [AV.ptr b 0]]=[AV.slice 1 (zP9 vs0) Cap.any,AV.func (Go.Fn.func 230) [] [AV.ptr b 0]]/\((List.length vs0<=1000000/\List.length hs<=1000000)/\∃ g1:Bool,zA6.objs σ b=zA5.cells [AV.slice 1 (zP9 hs) Cap.any] 26 1 g1)/\((∃ v1:Int,v1∈vs0/\((v1∈hs)->False))->(∀ i1:Nat,(∀ σ'2:zA6,((i1<List.length vs0)->((∃ g3:Bool,zA6.objs σ'2 b=zA5.cells [AV.slice 1 (zP9 hs) Cap.any] 26 1 g3)->(Q (AV.bool true) σ'2))))))/\((∀ v1:Int,((v1∈vs0)->(v1∈hs)))->(∀ σ'1:zA6,((∃ g2:Bool,zA6.objs σ'1 b=zA5.cells [AV.slice 1 (zP9 hs) Cap.any] 26 1 g2)->(Q (AV.bool false) σ'1))))):=by kernel_rfl
end Go.V
namespace Go.V
open Go Go.Proofs

theorem zU8 {vs:List Int} {i:Nat} (h:i<vs.length):AV.vptr (AV.cells (List.getD (zP9 vs) i AV.undef))=AV.vptr [iZ vs[i]]:=by
 unfold zP9
 rw [List.getD_eq_getElem?_getD,List.getElem?_map,List.getElem?_eq_getElem h]; rfl
theorem zU9 {vs:List Int} {i:Nat} (h:i<vs.length) (v:Int):v∈vs.take (i+1)↔v∈vs.take i\/v=vs[i]:=by
 rw [List.take_succ_eq_append_getElem h,List.mem_append,List.mem_singleton]
section
variable {B:Nat} {w0:World} {G:Nat->AV}
variable (hG:∀ i,zJV (G i))
include hG
theorem c237_ok:zJD (EV B w0 G) 237 C237:=by
 rintro args σ Q ⟨vs,v,rfl,hlen,hQ1,hQ2⟩
 refine zDV.pure hG (Q0:=fun u _=>(v∈vs/\∃ i:Nat,i<vs.length/\u=iZ (i:Int))\/(v∉vs/\u=iZ (-1))) (fun x hx => ?_) ?_ (fun u σ' k => ?_)
 ·simp only [List.mem_cons,List.not_mem_nil,or_false] at hx
  rcases hx with rfl | rfl
  ·exact zPC _
  ·exact .int _ _
 ·refine zKF (cuts:=[]) (zKM B w0 G) zMZ (fun lp hl _ Q a' σ kk => ?_) ((vc237 B w0 G vs v _).mpr ⟨⟨rfl,rfl,by rw [zPA],rfl,.refl _⟩,fun h σ' => .inr ⟨h,rfl⟩,fun h i hi σ' => .inl ⟨h,i,hi,rfl⟩⟩)
  change lp∈zKE Tryz.prog [] 237 at hl
  rw [zU2] at hl
  simp only [List.mem_cons,List.not_mem_nil,or_false] at hl
  subst hl
  obtain ⟨hat,hR1,hR2⟩:=kk
  refine zK5 (zU1 vs v) (x0:=0) (fun i hI => ?_) (fun i hI e a' σ hne kk => ?_) ⟨Nat.zero_le _,by simp⟩ hat
  ·obtain ⟨hi,hg⟩:i<=vs.length/\v∉vs.take i:=hI
   refine zP3 zMZ (zKM B w0 G) (by kernel_rfl) ((vc237l B w0 G vs v i).mpr (zE2 (fun h => ?_) (fun h=>⟨?_,trivial⟩)))
   ·have h:=of_decide_eq_true h
    have hi2:i<vs.length:=by omega
    refine ⟨⟨by omega,by rw [zPA]; omega⟩,vs[i],by rw [Int.toNat_natCast]; exact zU8 hi2,zE2 (fun hp=>⟨⟨?_,hi2⟩,rfl,trivial⟩) (fun hp=>⟨i+1,⟨⟨hi2,fun hm => ?_⟩,?_⟩,rfl,rfl,rfl,?_,.refl _⟩)⟩
    ·have hp:v=vs[i]:=by simpa using hp
     rw [hp]; exact List.getElem_mem hi2
    ·rcases (zU9 hi2 v).1 hm with hm | hm
     ·exact hg hm
     ·rw [hm] at hp; simp at hp
    ·show vs.length - (i+1)<vs.length - i
     omega
    ·rw [show ((i:Int)+1)=((i+1:Nat):Int) by omega,zN8 (by omega) (by omega)]
   ·have h:=of_decide_eq_false h
    rw [show i=vs.length by omega,List.take_length] at hg
    exact hg
  ·cases e with
   | exit j =>
    match j,kk with
    | 0,kk=>exact ⟨_,σ,(zJM kk.2).1,.refl _,hR1 kk.1 σ⟩
   | ret=>exact ⟨_,σ,(zJM kk.2).1,.refl _,hR2 kk.1.1 i kk.1.2 σ⟩
   | normal=>exact absurd rfl hne
   | _=>exact kk.elim
 ·rcases k with ⟨h1,i,hi,rfl⟩ | ⟨h1,rfl⟩
  ·exact ⟨_,.refl _,.int _ _,hQ1 h1 i hi⟩
  ·exact ⟨_,.refl _,.int _ _,hQ2 h1⟩
theorem c231_ok:zJD (EV B w0 G) 231 C231:=by
 rintro args σ Q ⟨vs,v,rfl,hlen,hQ⟩
 refine zN1 hG (fun x hx => ?_) (.bool _) (fun Q hQ => ?_) hQ
 ·simp only [List.mem_cons,List.not_mem_nil,or_false] at hx
  rcases hx with rfl | rfl
  ·exact zPC _
  ·exact .int _ _
 refine zKF (cuts:=[]) (zKM B w0 G) (zJJ (zKM B w0 G) (zJI (c237_ok hG) zJH)) (fun lp hl _ Q a' σ' kk=>kk.elim) ((vc231 B w0 G vs v Q).mpr ⟨vs,v,rfl,hlen,fun h i hi => ?_,fun h => ?_⟩)
 ·rw [decide_eq_true h] at hQ; exact hQ _
 ·rw [decide_eq_false h] at hQ; exact hQ _
omit hG in
theorem zU3.untok {b:Nat} {hs:List Int} {σ:zA6} (h:zU3 b hs σ):zU3 b hs σ.untok:=by
 obtain ⟨g,h⟩:=h
 exact ⟨g,by unfold zA6.untok; dsimp only; rw [h]⟩
theorem c230_ok (b:Nat) (hs:List Int):zJD (EV B w0 G) 230 (C230 b hs):=by
 rintro args σ Q ⟨v,rfl,⟨hlen,hh⟩,hQ⟩
 obtain ⟨g,hg⟩:=id hh
 refine zKF (cuts:=[]) (zKM B w0 G) (zJJ (zKM B w0 G) (zJI (c231_ok hG) zJH)) (fun lp hl _ Q a' σ' kk=>kk.elim) ((vc230 B w0 G b hs v σ Q).mpr ⟨g,hg,Nat.zero_lt_one,hs,v,rfl,hlen,?_⟩)
 have:=hQ _ hh.untok
 by_cases hm:v∈hs
 ·rw [decide_eq_true hm]; rw [decide_eq_false (fun h=>h hm)] at this; exact this
 ·rw [decide_eq_false hm]; rw [decide_eq_true hm] at this; exact this
theorem c236_ok (b:Nat) (hs:List Int):zJD (EV B w0 G) 236 (C236 b hs):=by
 rintro args σ Q ⟨vs,rfl,⟨⟨hlen,hlh⟩,hh⟩,hQ1,hQ2⟩
 have hH:zIP (EV B w0 G) (hnd (EV B w0 G) zHI zMU [(230,C230 b hs)]):=zJJ (zKM B w0 G) (zJI (c230_ok hG b hs) zJH)
 let I:zU5->Prop:=fun y=>y.i<=vs.length/\(∀ v∈vs.take y.i,v∈hs)/\zU3 b hs y.σ
 let X:Exit->zU5->Prop:=fun e y=>zU3 b hs y.σ/\match e with
  | .exit 0=>∀ v∈vs,v∈hs
  | .ret=>(∃ v∈vs,v∉hs)/\y.i<vs.length
  | _=>False
 refine zKF (cuts:=[]) (zKM B w0 G) hH (fun lp hl _ Q a' σ kk => ?_) ((vc236 B w0 G b hs vs I X σ Q).mpr ⟨⟨σ,0⟩,⟨Nat.zero_le _,fun v hv=>by simp at hv,hh⟩,⟨rfl,rfl,by rw [zPA],rfl,.refl _⟩,fun y' hy=>hQ2 hy.2 _ hy.1,fun y' hy=>hQ1 hy.2.1 _ _ hy.2.2 hy.1⟩)
 change lp∈zKE Tryz.prog [] 236 at hl
 rw [zU7] at hl
 simp only [List.mem_cons,List.not_mem_nil,or_false] at hl
 subst hl
 obtain ⟨y0,hI0,hat,hR1,hR2⟩:=kk
 refine zK5 (zU6 b vs I X) (x0:=y0) (fun y hI => ?_) (fun y hI e a' σ hne kk => ?_) hI0 hat
 ·obtain ⟨σy,i⟩:=y
  obtain ⟨hi,hg,hh⟩:=hI
  change i<=vs.length at hi
  change ∀ v∈vs.take i,v∈hs at hg
  change zU3 b hs σy at hh
  refine zP3 hH (zKM B w0 G) (by kernel_rfl) ((vc236l B w0 G b hs vs I X ⟨σy,i⟩).mpr (zE2 (fun h => ?_) (fun h=>⟨?_,.refl _⟩)))
  ·have h:(i:Int)<(vs.length:Int):=of_decide_eq_true h
   have hi2:i<vs.length:=by omega
   refine ⟨⟨by show (0:Int)<=(i:Int); omega,by rw [zPA]; exact h⟩,vs[i],?_,vs[i],rfl,⟨hlh,hh⟩,fun σ' hh'=>zE2 (fun hp=>⟨σ',⟨hh',⟨vs[i],List.getElem_mem hi2,of_decide_eq_true hp⟩,hi2⟩,rfl,.refl _⟩) (fun hp=>⟨⟨σ',i+1⟩,⟨⟨hi2,fun v hm => ?_,hh'⟩,?_⟩,rfl,rfl,rfl,?_,.refl _⟩)⟩
   ·show AV.vptr (AV.cells (List.getD (zP9 vs) (Int.toNat (i:Int)) AV.undef))=_
    rw [Int.toNat_natCast]; exact zU8 hi2
   ·rcases (zU9 hi2 v).1 hm with hm | hm
    ·exact hg v hm
    ·rw [hm]; exact Classical.not_not.1 (of_decide_eq_false hp)
   ·show vs.length - (i+1)<vs.length - i
    omega
   ·show TV.v (iZ (IntKind.wrap .i64 ((i:Int)+1)))=TV.v (iZ ((i+1:Nat):Int))
    rw [show ((i:Int)+1)=((i+1:Nat):Int) by omega,zN8 (by omega) (by omega)]
  ·have h:¬ (i:Int)<(vs.length:Int):=of_decide_eq_false h
   rw [show i=vs.length by omega,List.take_length] at hg
   exact ⟨hh,hg⟩
 ·cases e with
  | exit j =>
   match j,kk with
   | 0,kk=>exact ⟨_,_,(zJM kk.2).1,(zJM kk.2).2,hR1 y kk.1⟩
  | ret =>
   obtain ⟨σ1,hx,hat⟩:=kk
   exact ⟨_,_,(zJM hat).1,(zJM hat).2,hR2 ⟨σ1,y.i⟩ hx⟩
  | normal=>exact absurd rfl hne
  | _=>exact kk.elim
theorem c229_ok (b:Nat) (hs:List Int):zJD (EV B w0 G) 229 (C229 b hs):=by
 rintro args σ Q ⟨vs,rfl,⟨⟨hlen,hlh⟩,hh⟩,hQ⟩
 refine zKF (cuts:=[]) (zKM B w0 G) (zJJ (zKM B w0 G) (zJI (c236_ok hG b hs) zJH)) (fun lp hl _ Q a' σ' kk=>kk.elim) ((vc229 B w0 G b hs vs σ Q).mpr ⟨vs,rfl,⟨⟨hlen,hlh⟩,hh⟩,fun h i σ' hi hh' => ?_,fun h σ' hh' => ?_⟩)
 ·have:=hQ σ' hh'
  have e:(vs.any fun v=>decide (v∉hs))=true:=by
   rw [List.any_eq_true]
   obtain ⟨v,h1,h2⟩:=h
   exact ⟨v,h1,decide_eq_true h2⟩
  rw [e] at this; exact this
 ·have:=hQ σ' hh'
  have e:(vs.any fun v=>decide (v∉hs))=false:=by
   rw [List.any_eq_false]
   intro v hv hd
   exact of_decide_eq_true hd (h v hv)
  rw [e] at this; exact this
end
end Go.V
namespace Go.V
open Go Go.Proofs
variable (B:Nat) (w0:World) (G:Nat->AV)
def zUA (n:Nat):List AV:=(List.replicate n (AV.cells (.agg [iZ 0,iZ 0,.str ⟨⟨[]⟩⟩,.nilslice]))).flatten
def C241:zJC:=fun args σ K=>∃ n:Nat,args=[.nilslice,iZ (n:Int)]/\(n<=1000000/\((n=0->K .nilslice σ)/\(n≠0->K (.rslice σ.next 0 0) (σ.new (.cells (zUA n) 37 4 true)))))
def N241:zIE:=hAt [(5,5,zIB.s),(5,8,hEl 37 4)]
theorem vc241 (n:Nat) (σ:zA6) (Q:AV->zA6->Prop):(zKD [] (EV B w0 G) (H0 (EV B w0 G)) nL zHI N241 241 [.nilslice,iZ (n:Int)] σ Q) =
 (bcase (decide (((IntKind.wrap .i64 ((n:Int) - 0)):Int) > 0))
 (((0:Int)<IntKind.wrap .i64 ((n:Int) - 0)/\((56*(IntKind.wrap .i64 ((n:Int) - 0))):Int)<=140737488355328/\((IntKind.wrap .i64 ((n:Int) - 0)):Int)<=4611686018427387904)/\∃ a0:OE,zA6.objs (zA6.new σ (zA5.cells (List.flatten (List.replicate (Int.toNat (IntKind.wrap .i64 ((↑n:Int) - IntKind.wrap .i64 (0 - (↑0:Int))))) (AV.cells (av (Go.Value.agg #[Go.Value.int IntKind.i64 0,Go.Value.int IntKind.i64 0,Go.Value.string { data:=#[] },Go.Value.slice Option.none 0 0]))))) 37 4 true)) (zA6.next σ)=zA5.cells (OE.cs a0) 37 4 (OE.g a0)/\((0:Int)<=0/\(0:Int)<=(Int.toNat (IntKind.wrap .i64 ((n:Int) - 0)):Int))/\Q (AV.rslice (zA6.next σ) 0 0) (zA6.new σ (zA5.cells (List.flatten (List.replicate (Int.toNat (IntKind.wrap .i64 ((↑n:Int) - IntKind.wrap .i64 (0 - (↑0:Int))))) (AV.cells (av (Go.Value.agg #[Go.Value.int IntKind.i64 0,Go.Value.int IntKind.i64 0,Go.Value.string { data:=#[] },Go.Value.slice Option.none 0 0]))))) 37 4 true)))
 (Q AV.nilslice σ)):=by kernel_rfl
def C235:zJC:=fun args σ K=>∃ (ls:List (List T)) (m:Cap),args=[.slice 1 (lsV ls) m]/\((ls.length<=1000/\zQB ls<=1000000/\∀ id,m ≠ .tok id)/\K (slV ls.flatten) σ.untok)
def zUB (ls:List (List T)) (m:Cap):LS Nat where
 F i:=[(0,.v (.slice 1 (lsV ls) m)),(3,.v (iZ (zQB (ls.take i):Int))),(9,.v (.slice 1 (lsV ls) m)),(10,.v (iZ (ls.length:Int))),(11,.v (iZ (i:Int)))]
 FL _:=[]
 S _:=zJZ
 I i:=i<=ls.length
 μ i:=ls.length - i
 Ex i e a σ:=match e with
  | .exit 0=>¬ (i<ls.length)/\atF a [(0,.v (.slice 1 (lsV ls) m)),(3,.v (iZ (zQB (ls.take i):Int)))] [] (zJZ.Le σ)
  | _=>False
structure zUC where
 σ:zA6
 v:AV
 i:Nat
def zUD (ls:List (List T)) (m:Cap) (I:zUC->Prop):LS zUC where
 F y:=[(6,.v y.v),(25,.v (.slice 1 (lsV ls) m)),(26,.v (iZ (ls.length:Int))),(27,.v (iZ (y.i:Int)))]
 FL _:=[]
 S y:=y.σ
 I:=I
 μ y:=ls.length - y.i
 Ex y e a σ:=match e with
  | .exit 2=>¬ (y.i<ls.length)/\atF a [(6,.v y.v)] [] (y.σ.Le σ)
  | _=>False
def N235:zIE:=hAt [(4,0,hSl),(12,0,hSl),(13,2,hEl 37 4)]
theorem zUE:zKE Tryz.prog [] 235=[.loop (lB 235 0),.loop (lB 235 1)]:=by kernel_rfl
theorem zUF:zKA (.loop (lB 235 0))=some 3/\zKA (.loop (lB 235 1))=some 11:=by constructor <;> kernel_rfl
theorem vc235a (ls:List (List T)) (m:Cap) (i:Nat):(wpX [] (EV B w0 G) (H0 (EV B w0 G)) nL (zHI 235) N235 (lB 235 0) ((zUB ls m).post i) (frm ((zUB ls m).F i) []) zJZ) =
 (bcase (decide ((i:Int)<(List.length ls:Int)))
 (((0:Int)<=(i:Int)/\(i:Int)<(List.length (lsV ls):Int))/\∃ x0:List T,AV.vptr (AV.cells (List.getD (lsV ls) (Int.toNat (↑i:Int)) AV.undef))=AV.vptr [sT x0]/\bcase (decide (((IntKind.wrap .i64 ((zQB (List.take i ls):Int)+(List.length (tcellL x0):Int))):Int)<0))
 False
 (∃ x'1:Nat,(LS.I (zUB ls m) x'1/\LS.μ (zUB ls m) x'1<LS.μ (zUB ls m) i)/\Rf (TV.v (AV.slice 1 (lsV ls) m))/\TV.v (iZ (IntKind.wrap .i64 ((zQB (List.take i ls):Int)+(List.length (tcellL x0):Int))))=TV.v (iZ (zQB (List.take x'1 ls):Int))/\Rf (TV.v (AV.slice 1 (lsV ls) m))/\Rf (TV.v (iZ (List.length ls:Int)))/\TV.v (iZ (IntKind.wrap .i64 ((i:Int)+1)))=TV.v (iZ (x'1:Int))/\zA6.Le ((zUB ls m).3 x'1) zJZ))
 (((i<List.length ls)->False)/\Rf (TV.v (AV.slice 1 (lsV ls) m))/\Rf (TV.v (iZ (zQB (List.take i ls):Int)))/\zA6.Le zJZ zJZ)):=by kernel_rfl
theorem vc235n (ls:List (List T)) (m:Cap) (I:zUC->Prop) (i:Nat) (σ:zA6):(wpX [] (EV B w0 G) (H0 (EV B w0 G)) nL (zHI 235) N235 (lB 235 1) ((zUD ls m I).post ⟨σ,.nilslice,i⟩) (frm ((zUD ls m I).F ⟨σ,.nilslice,i⟩) []) σ) =
 (bcase (decide ((i:Int)<(List.length ls:Int)))
 (((0:Int)<=(i:Int)/\(i:Int)<(List.length (lsV ls):Int))/\∃ x0:List T,AV.vptr (AV.cells (List.getD (lsV ls) (Int.toNat (↑i:Int)) AV.undef))=AV.vptr [sT x0]/\bcase (List.isEmpty (tcellL x0))
 (∃ x'1:zUC,(I x'1/\LS.μ (zUD ls m I) x'1<LS.μ (zUD ls m I) (zUC.mk σ AV.nilslice i))/\TV.v AV.nilslice=TV.v (zUC.v x'1)/\Rf (TV.v (AV.slice 1 (lsV ls) m))/\Rf (TV.v (iZ (List.length ls:Int)))/\TV.v (iZ (IntKind.wrap .i64 ((i:Int)+1)))=TV.v (iZ (zUC.i x'1:Int))/\zA6.Le ((zUD ls m I).3 x'1) σ)
 (((((List.length (tcellL x0))*56):Nat)<=140737488355328/\List.length (tcellL x0)<=4611686018427387904)/\∃ x'1:zUC,(I x'1/\LS.μ (zUD ls m I) x'1<LS.μ (zUD ls m I) (zUC.mk σ AV.nilslice i))/\TV.v (AV.rslice (zA6.next σ) 0 (List.length (tcellL x0)))=TV.v (zUC.v x'1)/\Rf (TV.v (AV.slice 1 (lsV ls) m))/\Rf (TV.v (iZ (List.length ls:Int)))/\TV.v (iZ (IntKind.wrap .i64 ((i:Int)+1)))=TV.v (iZ (zUC.i x'1:Int))/\zA6.Le ((zUD ls m I).3 x'1) (zA6.new σ (zA5.cells (zA0 (tcellL x0)) 37 4 true))))
 (((i<List.length ls)->False)/\Rf (TV.v AV.nilslice)/\zA6.Le σ σ)):=by kernel_rfl
theorem vc235r (ls:List (List T)) (m:Cap) (I:zUC->Prop) (id n i:Nat) (σ:zA6):(wpX [] (EV B w0 G) (H0 (EV B w0 G)) nL (zHI 235) N235 (lB 235 1) ((zUD ls m I).post ⟨σ,.rslice id 0 n,i⟩) (frm ((zUD ls m I).F ⟨σ,.rslice id 0 n,i⟩) []) σ) =
 (bcase (decide ((i:Int)<(List.length ls:Int)))
 (((0:Int)<=(i:Int)/\(i:Int)<(List.length (lsV ls):Int))/\∃ x0:List T,AV.vptr (AV.cells (List.getD (lsV ls) (Int.toNat (↑i:Int)) AV.undef))=AV.vptr [sT x0]/\bcase (List.isEmpty (tcellL x0))
 (∃ x'1:zUC,(I x'1/\LS.μ (zUD ls m I) x'1<LS.μ (zUD ls m I) (zUC.mk σ (AV.rslice id 0 n) i))/\TV.v (AV.rslice id 0 n)=TV.v (zUC.v x'1)/\Rf (TV.v (AV.slice 1 (lsV ls) m))/\Rf (TV.v (iZ (List.length ls:Int)))/\TV.v (iZ (IntKind.wrap .i64 ((i:Int)+1)))=TV.v (iZ (zUC.i x'1:Int))/\zA6.Le ((zUD ls m I).3 x'1) σ)
 (∃ a1:OE,zA6.objs σ id=zA5.cells (OE.cs a1) 37 4 (OE.g a1)/\((0:Nat)=0/\((((n+(List.length (tcellL x0)))*56):Nat)<=140737488355328/\((n+(List.length (tcellL x0))):Nat)<=4611686018427387904)/\((n*4):Nat)<=List.length (OE.cs a1))/\∃ x'2:zUC,(I x'2/\LS.μ (zUD ls m I) x'2<LS.μ (zUD ls m I) (zUC.mk σ (AV.rslice id 0 n) i))/\TV.v (AV.rslice (zA6.next σ) 0 (n+(List.length (tcellL x0))))=TV.v (zUC.v x'2)/\Rf (TV.v (AV.slice 1 (lsV ls) m))/\Rf (TV.v (iZ (List.length ls:Int)))/\TV.v (iZ (IntKind.wrap .i64 ((i:Int)+1)))=TV.v (iZ (zUC.i x'2:Int))/\zA6.Le ((zUD ls m I).3 x'2) (zA6.new (zA6.set σ id zA5.dead) (zA5.cells ((List.take (n*4) (OE.cs a1))++(zA0 (tcellL x0))) 37 4 true))))
 (((i<List.length ls)->False)/\Rf (TV.v (AV.rslice id 0 n))/\zA6.Le σ σ)):=by kernel_rfl
def T235a (ls:List (List T)) (m:Cap):zFV:=fun _ Q a σ=>atF a ((zUB ls m).F 0) [] (zJZ.Le σ)/\Q (.exit 0) (frm [(0,.v (.slice 1 (lsV ls) m)),(3,.v (iZ (zQB ls:Int)))] []) zJZ
def T235b (ls:List (List T)) (m:Cap) (I R:zUC->Prop):zFV:=fun _ Q a σ=>∃ y:zUC,I y/\atF a ((zUD ls m I).F y) [] (y.σ.Le σ)/\∀ y':zUC,R y'->Q (.exit 2) (frm [(6,.v y'.v)] []) y'.σ
theorem vc235 (ls:List (List T)) (m:Cap) (I R:zUC->Prop) (Q:AV->zA6->Prop):(zKD [] (EV B w0 G) (hnd (EV B w0 G) zHI zMU [(241,C241)]) (zKK [(3,T235a ls m),(11,T235b ls m I R)]) zHI N235 235 [.slice 1 (lsV ls) m] zJZ Q) =
 ((Rf (TV.v (AV.slice 1 (lsV ls) m))/\Rf (TV.v (iZ 0))/\Rf (TV.v (AV.slice 1 (lsV ls) m))/\TV.v (iZ (List.length (lsV ls):Int))=TV.v (iZ (List.length ls:Int))/\Rf (TV.v (iZ 0))/\zA6.Le zJZ zJZ)/\∃ n0:Nat,[AV.nilslice,iZ (zQB ls:Int)]=[AV.nilslice,iZ (n0:Int)]/\n0<=1000000/\((n0=0)->(∃ y1:zUC,I y1/\(TV.v AV.nilslice=TV.v (zUC.v y1)/\Rf (TV.v (AV.slice 1 (lsV ls) m))/\TV.v (iZ (List.length (lsV ls):Int))=TV.v (iZ (List.length ls:Int))/\TV.v (iZ 0)=TV.v (iZ (zUC.i y1:Int))/\zA6.Le y1.1 zJZ)/\(∀ y'2:zUC,((R y'2)->(Q (zUC.v y'2) y'2.1)))))/\(((n0:Nat)≠0)->(∃ y1:zUC,I y1/\(TV.v (AV.rslice 0 0 0)=TV.v (zUC.v y1)/\Rf (TV.v (AV.slice 1 (lsV ls) m))/\TV.v (iZ (List.length (lsV ls):Int))=TV.v (iZ (List.length ls:Int))/\TV.v (iZ 0)=TV.v (iZ (zUC.i y1:Int))/\zA6.Le y1.1 (zA6.new zJZ (zA5.cells (zUA n0) 37 4 true)))/\(∀ y'2:zUC,((R y'2)->(Q (zUC.v y'2) y'2.1)))))):=by kernel_rfl
def C227:zJC:=fun args σ K=>∃ c:Cl,args=[clV c]/\((c.head.length<=300000/\c.guard.length<=300000/\c.body.length<=300000)/\K (slV c.all) σ.untok)
theorem vc227 (c:Cl) (Q:AV->zA6->Prop):(zKD [] (EV B w0 G) (hnd (EV B w0 G) zHI zMU [(235,C235)]) nL zHI zMV 227 [clV c] zJZ Q) =
 (∃ ls0:List (List T),∃ m1:Cap,[AV.slice 1 [sT (Cl.head c),sT (Cl.guard c),sT (Cl.body c)] Cap.full]=[AV.slice 1 (lsV ls0) m1]/\(List.length ls0<=1000/\zQB ls0<=1000000/\(∀ id2:Nat,m1≠(Cap.tok id2)))/\Q (sT (List.flatten ls0)) (Ut zJZ)):=by kernel_rfl
end Go.V
namespace Go.V
open Go Go.Proofs

def zUG (σ:zA6) (v:AV) (acc:List T):Prop:=(v = .nilslice/\acc=[])\/∃ (id:Nat) (cs:List AV) (g:Bool),v = .rslice id 0 acc.length/\σ.objs id = .cells cs 37 4 g/\acc.length*4<=cs.length/\cs.take (acc.length*4)=zA0 (tcellL acc)
theorem zUG.deep {σ:zA6} {v:AV} {acc:List T} (h:zUG σ v acc):∃ v',deep Tryz.prog σ (2*SizeOf.sizeOf acc+3) v=some v'/\Wk v' (slV acc):=by
 rcases h with ⟨rfl,rfl⟩ | ⟨id,cs,g,rfl,h1,h2,h3⟩
 ·exact ⟨.nilslice,rfl,Wk.nil 4⟩
 ·refine ⟨.slice 4 (tcellL acc) .nn,?_,Wk.slice _ _ _⟩
  refine zP5 (n:=2*SizeOf.sizeOf acc+2) (off:=0) (len:=acc.length) h1 kind37 rfl (by omega) (by omega) ?_
  rw [Nat.zero_mul,List.drop_zero,h3,zP7]
  exact deep_tcellL _ _ acc _ (by omega)
theorem zUH (l:List T):(zA0 (tcellL l)).take (l.length*4)=zA0 (tcellL l):=by
 rw [<-zNP l,List.take_length]
theorem zUG.append {σ:zA6} {id:Nat} {cs:List AV} {acc l:List T} (h3:cs.take (acc.length*4)=zA0 (tcellL acc)):zUG ((σ.set id .dead).new (.cells (cs.take (acc.length*4)++zA0 (tcellL l)) 37 4 true)) (.rslice σ.next 0 (acc.length+l.length)) (acc++l):=by
 have e:zA0 (tcellL (acc++l))=zA0 (tcellL acc)++zA0 (tcellL l):=by
  rw [<-zC4]; congr 1; simp [zMG]
 refine .inr ⟨σ.next,_,true,by rw [List.length_append],zA6.new_objs _ _,?_,?_⟩
 ·rw [h3,<-e,zNP]; exact Nat.le_refl _
 ·rw [h3,<-e,zUH]
theorem zUI (ls:List (List T)):ls.flatten.length=zQB ls:=by
 unfold zQB; rw [List.length_flatten]
theorem zUJ (ls:List (List T)) (i:Nat):zQB (ls.take i)<=zQB ls:=by
 have e:=congrArg zQB (List.take_append_drop i ls)
 unfold zQB at e ⊢
 rw [List.map_append,List.sum_append] at e
 omega
theorem sumLt {ls:List (List T)} {i:Nat} (h:i<ls.length):zQB (ls.take (i+1))=zQB (ls.take i)+ls[i].length:=by
 rw [List.take_succ_eq_append_getElem h]; unfold zQB; rw [List.map_append,List.sum_append]; simp
theorem zUK {ls:List (List T)} {i:Nat} (h:i<ls.length):(ls.take (i+1)).flatten=(ls.take i).flatten++ls[i]:=by
 rw [List.take_succ_eq_append_getElem h,List.flatten_append]; simp
theorem zUL (l:List T):(tcellL l).isEmpty=l.isEmpty:=by cases l <;> rfl

section
variable {B:Nat} {w0:World} {G:Nat->AV}
theorem c241_ok:zJD (EV B w0 G) 241 C241:=by
 rintro args σ Q ⟨n,rfl,hn,hQ1,hQ2⟩
 have e1:IntKind.wrap .i64 ((n:Int) - 0)=(n:Int):=by rw [zN8 (by omega) (by omega)]; omega
 have e2:IntKind.wrap .i64 ((n:Int) - IntKind.wrap .i64 (0 - 0))=(n:Int):=by
  rw [zN8 (n:=0 - 0) (by omega) (by omega),zN8 (by omega) (by omega)]; omega
 have ez:List.flatten (List.replicate n (AV.cells (av (Go.Value.agg #[Go.Value.int IntKind.i64 0,Go.Value.int IntKind.i64 0,Go.Value.string { data:=#[] },Go.Value.slice Option.none 0 0]))))=zUA n:=rfl
 refine zKF (cuts:=[]) (zKM B w0 G) zMZ (fun lp hl _ Q a' σ' kk=>kk.elim) ((vc241 B w0 G n σ Q).mpr ?_)
 rw [e1,e2,Int.toNat_natCast,ez]
 refine zE2 (fun h => ?_) (fun h => ?_)
 ·have h:=of_decide_eq_true h
  exact ⟨⟨h,by omega,by omega⟩,⟨zUA n,true⟩,zA6.new_objs _ _,⟨by omega,by omega⟩,hQ2 (by omega)⟩
 ·have h:=of_decide_eq_false h
  exact hQ1 (by omega)
variable (hG:∀ i,zJV (G i))
include hG
theorem c235_ok:zJD (EV B w0 G) 235 C235:=by
 rintro args σ Q ⟨ls,m,rfl,⟨hlen,hsum,hm⟩,hQ⟩
 have hH:zIP (EV B w0 G) (hnd (EV B w0 G) zHI zMU [(241,C241)]):=zJJ (zKM B w0 G) (zJI c241_ok zJH)
 refine zDV.pureD (2*SizeOf.sizeOf ls.flatten+3) hG (Q0:=fun v σ'=>zUG σ' v ls.flatten) (fun v hv => ?_) ?_ (fun v σ' k => ?_)
 ·simp only [List.mem_cons,List.not_mem_nil,or_false] at hv
  subst hv
  exact .slice hm fun x hx=>by
   rw [zQH] at hx
   unfold lsV at hx
   obtain ⟨y,_,rfl⟩:=List.mem_map.1 hx
   exact zQI y
 rotate_left
 ·obtain ⟨v',h1,h2⟩:=k.deep
  exact ⟨v',_,h1,h2,zQI _,hQ⟩
 let I:zUC->Prop:=fun y=>y.i<=ls.length/\zUG y.σ y.v (ls.take y.i).flatten
 let R:zUC->Prop:=fun y=>zUG y.σ y.v ls.flatten
 refine zKF (cuts:=[]) (zKM B w0 G) hH (fun lp hl _ Q a' σ kk => ?_) ((vc235 B w0 G ls m I R _).mpr ⟨⟨rfl,rfl,rfl,by rw [zQF],rfl,.refl _⟩,zQB ls,rfl,hsum,fun h=>⟨⟨zJZ,.nilslice,0⟩,⟨Nat.zero_le _,.inl ⟨rfl,rfl⟩⟩,⟨rfl,rfl,by rw [zQF],rfl,.refl _⟩,fun y' hy=>hy⟩,
  fun h=>⟨⟨zJZ.new (.cells (zUA (zQB ls)) 37 4 true),.rslice 0 0 0,0⟩,⟨Nat.zero_le _,.inr ⟨0,_,true,rfl,rfl,Nat.zero_le _,rfl⟩⟩,⟨rfl,rfl,by rw [zQF],rfl,.refl _⟩,fun y' hy=>hy⟩⟩)
 change lp∈zKE Tryz.prog [] 235 at hl
 rw [zUE] at hl
 simp only [List.mem_cons,List.not_mem_nil,or_false] at hl
 rcases hl with rfl | rfl
 ·refine zKL (P:=fun c Q a σ=>AWp (EV B w0 G) none (zJ8 Tryz.prog 235) c Q a σ) kk (fun _ k => ?_) (fun k => ?_)
  rotate_left
  ·exact zKL (P:=fun c Q a σ=>AWp (EV B w0 G) none (zJ8 Tryz.prog 235) c Q a σ) k (fun h k=>by rw [zUF.1] at h; cases h) (fun k=>k.elim)
  obtain ⟨hat,hR⟩:=k
  refine zK5 (zUB ls m) (x0:=0) (fun i hI => ?_) (fun i hI e a' σ hne kk => ?_) (Nat.zero_le _) hat
  ·have hi:i<=ls.length:=hI
   refine zP3 zMZ (zKM B w0 G) (by kernel_rfl) ((vc235a B w0 G ls m i).mpr (zE2 (fun h => ?_) (fun h=>⟨fun h2 => ?_,rfl,rfl,.refl _⟩)))
   ·have h:=of_decide_eq_true h
    have hi2:i<ls.length:=by omega
    have hs:=sumLt hi2
    have hle:=zUJ ls (i+1)
    have e:IntKind.wrap .i64 ((zQB (ls.take i):Int)+((tcellL ls[i]).length:Int))=(zQB (ls.take (i+1)):Int):=by
     rw [zMH,zN8 (by omega) (by omega),hs]; omega
    refine ⟨⟨by omega,by rw [zQF]; omega⟩,ls[i],by rw [Int.toNat_natCast,zQG hi2]; rfl,?_⟩
    rw [e]
    refine zE2 (fun h2 => ?_) (fun h2=>⟨i+1,⟨hi2,?_⟩,rfl,rfl,rfl,rfl,?_,.refl _⟩)
    ·have h2:=of_decide_eq_true h2
     omega
    ·show ls.length - (i+1)<ls.length - i
     omega
    ·rw [show ((i:Int)+1)=((i+1:Nat):Int) by omega,zN8 (by omega) (by omega)]
   ·have h:=of_decide_eq_false h
    omega
  ·have hi:i<=ls.length:=hI
   cases e with
   | exit j =>
    match j,kk with
    | 0,kk =>
     obtain ⟨hk,hat⟩:=kk
     rw [show i=ls.length by omega,List.take_length] at hat
     exact ⟨_,_,(zJM hat).1,(zJM hat).2,hR⟩
   | normal=>exact absurd rfl hne
   | _=>exact kk.elim
 ·refine zKL (P:=fun c Q a σ=>AWp (EV B w0 G) none (zJ8 Tryz.prog 235) c Q a σ) kk (fun h k=>by rw [zUF.2] at h; cases h) (fun k => ?_)
  refine zKL (P:=fun c Q a σ=>AWp (EV B w0 G) none (zJ8 Tryz.prog 235) c Q a σ) k (fun _ k => ?_) (fun k=>k.elim)
  obtain ⟨y0,hI0,hat,hR⟩:=k
  refine zK5 (zUD ls m I) (x0:=y0) (fun y hI => ?_) (fun y hI e a' σ hne kk => ?_) hI0 hat
  ·obtain ⟨σy,v,i⟩:=y
   obtain ⟨hi,hO⟩:=hI
   change i<=ls.length at hi
   change zUG σy v (ls.take i).flatten at hO
   have hfl:=zUI (ls.take i)
   have hle:=zUJ ls i
   have wI:i<ls.length->IntKind.wrap .i64 ((i:Int)+1)=((i+1:Nat):Int):=fun h=>by rw [show ((i:Int)+1)=((i+1:Nat):Int) by omega,zN8 (by omega) (by omega)]
   rcases hO with ⟨rfl,hnil⟩ | ⟨id,cs,g,rfl,ho,hcl,hcs⟩
   ·refine zP3 zMZ (zKM B w0 G) (by kernel_rfl) ((vc235n B w0 G ls m I i σy).mpr (zE2 (fun h => ?_) (fun h=>⟨fun h2 => ?_,rfl,.refl _⟩)))
    ·have h:(i:Int)<(ls.length:Int):=of_decide_eq_true h
     have hi2:i<ls.length:=by omega
     have hm2:=zQM (List.getElem_mem hi2)
     have hft:=zUK hi2
     rw [hnil,List.nil_append] at hft
     refine ⟨⟨by show (0:Int)<=(i:Int); omega,by rw [zQF]; exact h⟩,ls[i],?_,zE2 (fun he=>⟨⟨σy,.nilslice,i+1⟩,⟨⟨hi2,.inl ⟨rfl,?_⟩⟩,?_⟩,rfl,rfl,rfl,?_,.refl _⟩) (fun he=>⟨⟨by rw [zMH]; omega,by rw [zMH]; omega⟩,⟨σy.new (.cells (zA0 (tcellL ls[i])) 37 4 true),.rslice σy.next 0 (tcellL ls[i]).length,i+1⟩,⟨⟨hi2,.inr ⟨σy.next,_,true,?_,zA6.new_objs _ _,?_,?_⟩⟩,?_⟩,rfl,rfl,rfl,?_,.refl _⟩)⟩
     ·show AV.vptr (AV.cells (List.getD (lsV ls) (Int.toNat (i:Int)) AV.undef))=_
      rw [Int.toNat_natCast,zQG hi2]; rfl
     ·show (ls.take (i+1)).flatten=[]
      rw [hft]
      rw [zUL] at he
      exact List.isEmpty_iff.1 he
     ·show ls.length - (i+1)<ls.length - i
      omega
     ·exact congrArg (fun z=>TV.v (iZ z)) (wI hi2)
     ·show AV.rslice σy.next 0 (tcellL ls[i]).length = .rslice σy.next 0 (ls.take (i+1)).flatten.length
      rw [hft,zMH]
     ·show (ls.take (i+1)).flatten.length*4<=(zA0 (tcellL ls[i])).length
      rw [hft,zNP]; exact Nat.le_refl _
     ·show (zA0 (tcellL ls[i])).take ((ls.take (i+1)).flatten.length*4)=zA0 (tcellL (ls.take (i+1)).flatten)
      rw [hft,zUH]
     ·show ls.length - (i+1)<ls.length - i
      omega
     ·exact congrArg (fun z=>TV.v (iZ z)) (wI hi2)
    ·have h:¬ (i:Int)<(ls.length:Int):=of_decide_eq_false h
     have h2:i<ls.length:=h2
     omega
   ·refine zP3 zMZ (zKM B w0 G) (by kernel_rfl) ((vc235r B w0 G ls m I id (ls.take i).flatten.length i σy).mpr (zE2 (fun h => ?_) (fun h=>⟨fun h2 => ?_,rfl,.refl _⟩)))
    ·have h:(i:Int)<(ls.length:Int):=of_decide_eq_true h
     have hi2:i<ls.length:=by omega
     have hm2:=zQM (List.getElem_mem hi2)
     have hft:=zUK hi2
     refine ⟨⟨by show (0:Int)<=(i:Int); omega,by rw [zQF]; exact h⟩,ls[i],?_,zE2 (fun he=>⟨⟨σy,.rslice id 0 (ls.take i).flatten.length,i+1⟩,⟨⟨hi2,?_⟩,?_⟩,rfl,rfl,rfl,?_,.refl _⟩) (fun he=>⟨⟨cs,g⟩,ho,⟨rfl,⟨by rw [zMH]; omega,by rw [zMH]; omega⟩,hcl⟩,⟨_,.rslice σy.next 0 ((ls.take i).flatten.length+(tcellL ls[i]).length),i+1⟩,⟨⟨hi2,?_⟩,?_⟩,rfl,rfl,rfl,?_,.refl _⟩)⟩
     ·show AV.vptr (AV.cells (List.getD (lsV ls) (Int.toNat (i:Int)) AV.undef))=_
      rw [Int.toNat_natCast,zQG hi2]; rfl
     ·show zUG σy _ (ls.take (i+1)).flatten
      rw [zUL] at he
      rw [hft,List.isEmpty_iff.1 he,List.append_nil]
      exact .inr ⟨id,cs,g,rfl,ho,hcl,hcs⟩
     ·show ls.length - (i+1)<ls.length - i
      omega
     ·exact congrArg (fun z=>TV.v (iZ z)) (wI hi2)
     ·show zUG _ _ (ls.take (i+1)).flatten
      rw [hft,zMH]
      exact zUG.append hcs
     ·show ls.length - (i+1)<ls.length - i
      omega
     ·exact congrArg (fun z=>TV.v (iZ z)) (wI hi2)
    ·have h:¬ (i:Int)<(ls.length:Int):=of_decide_eq_false h
     have h2:i<ls.length:=h2
     omega
  ·obtain ⟨σy,v,i⟩:=y
   obtain ⟨hi,hO⟩:=hI
   change i<=ls.length at hi
   change zUG σy v (ls.take i).flatten at hO
   cases e with
   | exit j =>
    match j,kk with
    | 2,kk =>
     obtain ⟨hk,hat⟩:=kk
     have hk:¬ i<ls.length:=hk
     rw [show i=ls.length by omega,List.take_length] at hO
     exact ⟨_,_,(zJM hat).1,(zJM hat).2,hR ⟨σy,v,i⟩ hO⟩
   | normal=>exact absurd rfl hne
   | _=>exact kk.elim
omit hG in
theorem zUM (c:Cl):zJV (clV c):=.agg fun x hx=>by
 simp only [List.mem_cons,List.not_mem_nil,or_false] at hx
 rcases hx with rfl | rfl | rfl | rfl | rfl
 ·exact .int _ _
 ·exact .int _ _
 ·exact zQI _
 ·exact zQI _
 ·exact zQI _
theorem zUN:zJD (EV B w0 G) 227 C227:=by
 rintro args σ Q ⟨c,rfl,⟨h1,h2,h3⟩,hQ⟩
 refine zN1 hG (fun x hx => ?_) (zQI _) (fun Q hQ => ?_) hQ
 ·simp only [List.mem_cons,List.not_mem_nil,or_false] at hx
  subst hx; exact zUM c
 refine zKF (cuts:=[]) (zKM B w0 G) (zJJ (zKM B w0 G) (zJI (c235_ok hG) zJH)) (fun lp hl _ Q a' σ' kk=>kk.elim) ((vc227 B w0 G c Q).mpr ⟨[c.head,c.guard,c.body],.full,rfl,⟨by show 3<=1000; omega,?_,by simp⟩,?_⟩)
 ·unfold zQB; simp; omega
 ·have e:[c.head,c.guard,c.body].flatten=c.all:=by unfold Cl.all; simp
  rw [e]; exact hQ _
end
end Go.V
namespace Go.V
open Go Go.Proofs
variable (B:Nat) (w0:World) (G:Nat->AV)
def orC (a b:zJC):zJC:=fun args σ K=>a args σ K\/b args σ K
def smallT (N:Nat) (t:T):Prop:=t.small/\SizeOf.sizeOf t<N
def C226:zJC:=fun args σ K=>∃ (c:Cl) (arity:Int),args=[clV c,iZ arity]/\((c.head.length<=300000/\c.guard.length<=300000/\c.body.length<=300000)/\K (.bool (zSB c arity)) σ.untok)
def H226 (E:Env) (N b:Nat) (hs:List Int):zDY:=hnd E zHI zMU [(227,C227),(106,C106),(190,C190),(127,C127),(229,C229 b hs),(192,orC (C192 232 zSA (smallT N)) (C192 234 zS9 (fun _=>True)))]
def N226:zIE:=hAt [(7,7,hEl 26 1)]
theorem vc226 (N:Nat) (hs:List Int) (c:Cl) (arity:Int) (Q:AV->zA6->Prop):(zKD [] (EV B w0 G) (H226 (EV B w0 G) N 0 hs) nL zHI N226 226 [clV c,iZ arity] zJZ Q) =
 (bcase (decide (((Cl.mark c):Int)<0))
 (Q (AV.bool false) zJZ)
 (bcase (decide (((Cl.mark c):Int) > 2))
 (Q (AV.bool false) zJZ)
 (bcase ((List.length (tcellL (Cl.head c)):Int) != arity)
 (Q (AV.bool false) zJZ)
 (bcase (decide ((List.length (tcellL (Cl.guard c)):Int) > 8))
 (Q (AV.bool false) zJZ)
 (bcase (decide ((List.length (tcellL (Cl.body c)):Int) > 16))
 (Q (AV.bool false) zJZ)
 (∃ c0:Cl,[AV.agg [iZ (Cl.mark c),iZ (Cl.vars c),sT (Cl.head c),sT (Cl.guard c),sT (Cl.body c)]]=[AV.agg [iZ (Cl.mark c0),iZ (Cl.vars c0),sT (Cl.head c0),sT (Cl.guard c0),sT (Cl.body c0)]]/\(List.length (Cl.head c0)<=300000/\List.length (Cl.guard c0)<=300000/\List.length (Cl.body c0)<=300000)/\∃ l1:List T,[sT (Cl.all c0)]=[sT l1]/\List.length l1<=1000000/\bcase (((if zS5 l1=Bool.true then 0 else 3):Int) != 0)
 (Q (AV.bool false) (Ut (Ut zJZ)))
 (∃ l2:List T,[sT (Cl.all c0)]=[sT l2]/\(List.length l2<=1000000/\(∀ x3:T,((x3∈l2)->(((zND x3):Int)=0))))/\bcase (decide ((sizeL l2:Int) > 400))
 (Q (AV.bool false) (Ut (Ut (Ut zJZ))))
 (∃ l3:List T,[sT (Cl.all c0)]=[sT l3]/\(zS5 l3=true/\List.length l3<=1000000)/\∃ l4:List T,[sT (Cl.head c)]=[sT l4]/\(zS5 l4=true/\List.length l4<=1000000)/\∃ a5:OE,zA5.cells [AV.nilslice] 26 1 false=zA5.cells (OE.cs a5) 26 1 (OE.g a5)/\(1:Nat)<=List.length (OE.cs a5)/\∃ l6:List T,[sT (Cl.guard c)]=[sT l6]/\(zS5 l6=true/\List.length l6<=1000000)/\bcase (decide ((List.length (zP9 (zS7 l3)):Int)<=64))
 (∃ vs7:List Int,[AV.slice 1 (zP9 (zS7 l6)) Cap.any,AV.func (Go.Fn.func 230) [] [AV.ptr 0 0]]=[AV.slice 1 (zP9 vs7) Cap.any,AV.func (Go.Fn.func 230) [] [AV.ptr 0 0]]/\((List.length vs7<=1000000/\List.length hs<=1000000)/\∃ g8:Bool,zA5.cells (zAF (OE.cs a5) 0 [AV.slice 1 (zP9 (zS7 l4)) Cap.any]) 26 1 (OE.g a5)=zA5.cells [AV.slice 1 (zP9 hs) Cap.any] 26 1 g8)/\(∀ σ'8:zA6,((∃ g9:Bool,zA6.objs σ'8 0=zA5.cells [AV.slice 1 (zP9 hs) Cap.any] 26 1 g9)->(bcase (!(List.any vs7 fun v=>decide ¬v∈hs))
 ((∃ l9:List T,[sT (Cl.guard c),AV.func (Go.Fn.func 232) [] []]=[sT l9,AV.func (Go.Fn.func 232) [] []]/\(List.length l9<=1000000/\(∀ x10:T,((x10∈l9)->(T.small x10/\SizeOf.sizeOf x10<N))))/\bcase (!(List.any l9 zSA))
 ((∃ l10:List T,[sT (Cl.body c),AV.func (Go.Fn.func 234) [] []]=[sT l10,AV.func (Go.Fn.func 232) [] []]/\(List.length l10<=1000000/\(∀ x11:T,((x11∈l10)->(T.small x11/\SizeOf.sizeOf x11<N))))/\Q (AV.bool (!(List.any l10 zSA))) (Ut (Ut σ'8)))\/∃ l10:List T,[sT (Cl.body c),AV.func (Go.Fn.func 234) [] []]=[sT l10,AV.func (Go.Fn.func 234) [] []]/\(List.length l10<=1000000/\(∀ x11:T,((x11∈l10)->True)))/\Q (AV.bool (!(List.any l10 zS9))) (Ut (Ut σ'8)))
 (Q (AV.bool false) (Ut σ'8)))\/∃ l9:List T,[sT (Cl.guard c),AV.func (Go.Fn.func 232) [] []]=[sT l9,AV.func (Go.Fn.func 234) [] []]/\(List.length l9<=1000000/\(∀ x10:T,((x10∈l9)->True)))/\bcase (!(List.any l9 zS9))
 ((∃ l10:List T,[sT (Cl.body c),AV.func (Go.Fn.func 234) [] []]=[sT l10,AV.func (Go.Fn.func 232) [] []]/\(List.length l10<=1000000/\(∀ x11:T,((x11∈l10)->(T.small x11/\SizeOf.sizeOf x11<N))))/\Q (AV.bool (!(List.any l10 zSA))) (Ut (Ut σ'8)))\/∃ l10:List T,[sT (Cl.body c),AV.func (Go.Fn.func 234) [] []]=[sT l10,AV.func (Go.Fn.func 234) [] []]/\(List.length l10<=1000000/\(∀ x11:T,((x11∈l10)->True)))/\Q (AV.bool (!(List.any l10 zS9))) (Ut (Ut σ'8)))
 (Q (AV.bool false) (Ut σ'8)))
 (Q (AV.bool false) σ'8)))))
 (Q (AV.bool false) (Ut (zA6.set (zA6.new (Ut (Ut (Ut (Ut (Ut zJZ))))) (zA5.cells [AV.nilslice] 26 1 false)) 0 (zA5.cells (zAF (OE.cs a5) 0 [AV.slice 1 (zP9 (zS7 l4)) Cap.any]) 26 1 (OE.g a5))))))))))))):=by kernel_rfl
def C214:zJC:=fun args σ K=>∃ (c:Cl) (arity:Int),args=[clV c,iZ arity]/\((c.head.length<=300000/\c.guard.length<=300000/\c.body.length<=300000)/\K (.bool (zSC c arity)) σ.untok)
theorem vc214 (c:Cl) (arity:Int) (Q:AV->zA6->Prop):(zKD [] (EV B w0 G) (hnd (EV B w0 G) zHI zMU [(226,C226),(227,C227),(191,C191)]) nL zHI zMV 214 [clV c,iZ arity] zJZ Q) =
 (∃ c0:Cl,∃ arity1:Int,[AV.agg [iZ (Cl.mark c),iZ (Cl.vars c),sT (Cl.head c),sT (Cl.guard c),sT (Cl.body c)],iZ arity]=[AV.agg [iZ (Cl.mark c0),iZ (Cl.vars c0),sT (Cl.head c0),sT (Cl.guard c0),sT (Cl.body c0)],iZ arity1]/\(List.length (Cl.head c0)<=300000/\List.length (Cl.guard c0)<=300000/\List.length (Cl.body c0)<=300000)/\bcase (zSB c0 arity1)
 (∃ c2:Cl,[AV.agg [iZ (Cl.mark c),iZ (Cl.vars c),sT (Cl.head c),sT (Cl.guard c),sT (Cl.body c)]]=[AV.agg [iZ (Cl.mark c2),iZ (Cl.vars c2),sT (Cl.head c2),sT (Cl.guard c2),sT (Cl.body c2)]]/\(List.length (Cl.head c2)<=300000/\List.length (Cl.guard c2)<=300000/\List.length (Cl.body c2)<=300000)/\Rf (TV.l 2 1)/\Rf (TV.v (iZ (Cl.vars c)))/\∃ l3:List T,∃ vars4:Int,[sT (Cl.all c2),iZ (Cl.vars c)]=[sT l3,iZ vars4]/\(zS5 l3=true/\List.length l3<=1000000)/\Q (AV.bool (zS8 l3 vars4)) (Ut (Ut (Ut zJZ))))
 (Rf (TV.v (AV.tuple []))/\Rf (TV.v (AV.tuple []))/\Q (AV.bool false) (Ut zJZ))):=by kernel_rfl
end Go.V
