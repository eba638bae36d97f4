/- A part of the proof of the statement S8 (texts brought together and shortened by a program of this work). -/
import Derived.Test.YtgnjidopnplbbaaGreatDoorQ25
import Derived.Test.YtgnjidopnplbbaaGreatDoorQ20
import Derived.Test.YtgnjidopnplbbaaGreatDoorQ19
import Derived.Test.YtgnjidopnplbbaaGreatDoorQ18
set_option maxRecDepth 1000000
set_option linter.unusedVariables false
namespace Go.V
open Go Go.Proofs
variable (B:Nat) (w0:World) (G:Nat->AV)
def C209b:zJC:=fun args σ K=>∃ s,args=[.str s,.func (.func 223) [] [],.bool true]/\K (iZ (bad s)) σ.untok
def zSQ (s:ByteArray):LI Nat:=⟨fun _=>[(1,.v (.func (.func 223) [] [])),(2,.v (.bool true)),(10,.v (.ptr 0 0))],fun _=>[],fun p=>[.siter s p],fun _=>1,I209 s,fun p=>s.size - p,fun _=>X209 s⟩
theorem vc209bl (s:ByteArray) (pos:Nat):(wpC (EV B w0 G) (H0 (EV B w0 G)) nL (zHI 209) (symAt [(2,0)]) (zJU Tryz.prog 209 0) ((zSQ s).post pos) (frm ((zSQ s).F pos) ((zSQ s).FL pos)) (lst ((zSQ s).L pos) ((zSQ s).m pos))) =
 (bcase (decide (pos<ByteArray.size s))
 (bcase (decide (((((Utf8.decode s pos).1):Nat):Int)<32))
 (((bad s):Int)≠(-1)/\TV.v (iZ (pos:Int))=TV.v (iZ (bad s))/\(1:Nat)=1/\True)
 (bcase (((decide (((((Utf8.decode s pos).1):Nat):Int) > 126)):Bool)==true)
 (((bad s):Int)≠(-1)/\TV.v (iZ (pos:Int))=TV.v (iZ (bad s))/\(1:Nat)=1/\True)
 (∃ x'0:Nat,((∃ n1:Nat,(((ByteArray.size s) - x'0):Nat)<n1/\((bad s):Int)=zMS s n1 x'0)/\((LI.μ (zSQ s) x'0):Nat)<LI.μ (zSQ s) pos)/\Rf (TV.v (AV.func (Go.Fn.func 223) [] []))/\Rf (TV.v (AV.bool true))/\Rf (TV.v (AV.ptr 0 0))/\(1:Nat)=1/\zA5.siter s (pos+((Utf8.decode s pos).2))=zA5.siter s x'0/\True)))
 (((bad s):Int)=(-1)/\(1:Nat)=1/\True)):=by kernel_rfl
def L209b (s:ByteArray):zFV:=fun _ Q a σ=>zJQ a σ [(1,.v (.func (.func 223) [] [])),(2,.v (.bool true)),(10,.v (.ptr 0 0))] [] [.siter s 0] 1/\((bad s = -1->Q (.exit 0) (frm [] []) (lst [] 1))/\(bad s ≠ -1->Q .ret (frm [(6,.v (iZ (bad s)))] []) (lst [] 1)))
theorem vc209b (s:ByteArray) (Q:AV->zA6->Prop):(zJ6 (EV B w0 G) (H0 (EV B w0 G)) (L209b s) zHI zMV 209 [.str s,.func (.func 223) [] [],.bool true] zJZ Q) =
 ((Rf (TV.v (AV.func (Go.Fn.func 223) [] []))/\Rf (TV.v (AV.bool true))/\Rf (TV.v (AV.ptr 0 0))/\(1:Nat)=1/\Rf (zA5.siter s 0)/\True)/\((((bad s):Int)=(-1))->(Q (iZ (-1)) (lst [] 1)))/\((((bad s):Int)≠(-1))->(Q (iZ (bad s)) (lst [] 1)))):=by kernel_rfl
def C212:zJC:=fun args σ K=>∃ s,args=[.str s]/\K (.bool (zMT s)) σ.untok
theorem vc212 (s:ByteArray) (Q:AV->zA6->Prop):(zKD [] (EV B w0 G) (hnd (EV B w0 G) zHI zMU [(209,C209b)]) nL zHI zMV 212 [.str s] zJZ Q) =
 (bcase (decide ((ByteArray.size s:Int) ≥ 1))
 (bcase (decide ((ByteArray.size s:Int)<=32))
 (∃ s0:ByteArray,[AV.str s,AV.func (Go.Fn.func 223) [] [],AV.bool true]=[AV.str s0,AV.func (Go.Fn.func 223) [] [],AV.bool true]/\Q (AV.bool (!(decide (((bad s0):Int) ≥ 0)))) (Ut zJZ))
 (Q (AV.bool false) zJZ))
 (Q (AV.bool false) zJZ)):=by kernel_rfl
def C242:zJC:=fun args σ K=>∃ (l:List ByteArray) (s:ByteArray) (m:Cap),args=[.slice 1 (l.map AV.str) m,.str s]/\((l.length<=1000000/\∀ id,m ≠ .tok id)/\((l.any (fun x=>zAI s x)=true->∀ i:Nat,i<l.length->K (iZ (i:Int)) σ.untok)/\(l.any (fun x=>zAI s x)=false->K (iZ (-1)) σ.untok)))
def C240 (N:Nat):zJC:=fun args σ K=>∃ t:T,args=[.agg (tc t)]/\(t.small/\SizeOf.sizeOf t<N)/\K (.bool (zRZ t)) σ.untok
def zSR (t:T):Bool:=!zRZ t
def CPn (N:Nat):zJC:=CP zSR (fun t=>t.small/\SizeOf.sizeOf t<N)
def C192e (N:Nat):zJC:=C192 243 zSR (fun t=>t.small/\SizeOf.sizeOf t<N)
theorem vc243 (N:Nat) (t:T) (Q:AV->zA6->Prop):(zKD [] (EV B w0 G) (hnd (EV B w0 G) zHI zMU [(240,C240 N)]) nL zHI zMV 243 [.agg (tc t)] zJZ Q) =
 (∃ t0:T,[AV.agg (tc t)]=[AV.agg (tc t0)]/\(T.small t0/\SizeOf.sizeOf t0<N)/\Q (AV.bool (!(zRZ t0))) (Ut zJZ)):=by kernel_rfl
def zSS (l:List ByteArray) (s:ByteArray) (m:Cap):LS Nat where
 F i:=[(0,.v (.slice 1 (l.map AV.str) m)),(1,.v (.str s)),(7,.v (iZ (l.length:Int))),(8,.v (iZ (i:Int)))]
 FL _:=[]
 S _:=zJZ
 I i:=i<=l.length/\(l.take i).any (fun x=>zAI s x)=false
 μ i:=l.length - i
 Ex i e a σ:=match e with
  | .exit 0=>¬ (i<l.length)/\atF a [] [] True
  | .ret=>(l.any (fun x=>zAI s x)=true/\i<l.length)/\atF a [(4,.v (iZ (i:Int)))] [] True
  | _=>False
def hStr:zIB:=zIB.as (fun s:ByteArray => .vptr [.str s])
def N242:zIE:=hAt [(4,3,hStr)]
theorem zST:zKE Tryz.prog [] 242=[.loop (lB 242 0)]:=by kernel_rfl
theorem vc242l (l:List ByteArray) (s:ByteArray) (m:Cap) (i:Nat):(wpX [] (EV B w0 G) (H0 (EV B w0 G)) nL (zHI 242) N242 (lB 242 0) ((zSS l s m).post i) (frm ((zSS l s m).F i) []) zJZ) =
 (bcase (decide ((i:Int)<(List.length l:Int)))
 (((0:Int)<=(i:Int)/\(i:Int)<(List.length (List.map AV.str l):Int))/\∃ x0:ByteArray,AV.vptr (AV.cells (List.getD (List.map AV.str l) (Int.toNat (↑i:Int)) AV.undef))=AV.vptr [AV.str x0]/\bcase (zAI s x0)
 (((List.any l fun x=>zAI s x)=true/\i<List.length l)/\Rf (TV.v (iZ (i:Int)))/\True)
 (∃ x'1:Nat,((x'1<=List.length l/\(List.any (List.take x'1 l) fun x=>zAI s x)=false)/\LS.μ (zSS l s m) x'1<LS.μ (zSS l s m) i)/\Rf (TV.v (AV.slice 1 (List.map AV.str l) m))/\Rf (TV.v (AV.str s))/\Rf (TV.v (iZ (List.length l:Int)))/\TV.v (iZ (IntKind.wrap .i64 ((i:Int)+1)))=TV.v (iZ (x'1:Int))/\zA6.Le ((zSS l s m).3 x'1) zJZ))
 (((i<List.length l)->False)/\True)):=by kernel_rfl
def T242 (l:List ByteArray) (s:ByteArray) (m:Cap):zFV:=fun _ Q a σ=>atF a ((zSS l s m).F 0) [] (zJZ.Le σ)/\(((l.any (fun x=>zAI s x)=false)->∀ σ':zA6,Q (.exit 0) (frm [] []) σ')/\(∀ i:Nat,l.any (fun x=>zAI s x)=true->i<l.length->∀ σ':zA6,Q .ret (frm [(4,.v (iZ (i:Int)))] []) σ'))
theorem vc242 (l:List ByteArray) (s:ByteArray) (m:Cap) (Q:AV->zA6->Prop):(zKD [] (EV B w0 G) (H0 (EV B w0 G)) (T242 l s m) zHI N242 242 [.slice 1 (l.map AV.str) m,.str s] zJZ Q) =
 ((Rf (TV.v (AV.slice 1 (List.map AV.str l) m))/\Rf (TV.v (AV.str s))/\TV.v (iZ (List.length (List.map AV.str l):Int))=TV.v (iZ (List.length l:Int))/\Rf (TV.v (iZ 0))/\zA6.Le zJZ zJZ)/\(((List.any l fun x=>zAI s x)=false)->(∀ σ'0:zA6,Q (iZ (-1)) σ'0))/\(∀ i0:Nat,(((List.any l fun x=>zAI s x)=true)->((i0<List.length l)->(∀ σ'1:zA6,Q (iZ (i0:Int)) σ'1))))):=by kernel_rfl
theorem vc240 (B:Nat) (w0:World) (N:Nat) (t:T) (Q:AV->zA6->Prop):(zKD [] (EV B w0 G1) (hnd (EV B w0 G1) zHI zMU [(192,C192e N),(242,C242)]) nL zHI zMV 240 [.agg (tc t)] zJZ Q) =
 (bcase (((T.k t):Int)==2)
 (Q (AV.bool true) zJZ)
 (bcase (((T.k t):Int)==1)
 (Q (AV.bool true) zJZ)
 (bcase (((T.k t):Int)==5)
 (∃ l0:List ByteArray,∃ s1:ByteArray,∃ m2:Cap,[AV.slice 1 [AV.str ⟨⟨[43]⟩⟩,AV.str ⟨⟨[45]⟩⟩,AV.str ⟨⟨[42]⟩⟩,AV.str ⟨⟨[47]⟩⟩,AV.str ⟨⟨[109,111,100]⟩⟩] Cap.nn,AV.str (T.s t)]=[AV.slice 1 (List.map AV.str l0) m2,AV.str s1]/\(List.length l0<=1000000/\(∀ id3:Nat,m2≠(Cap.tok id3)))/\(((List.any l0 fun x=>zAI s1 x)=true)->(∀ i3:Nat,((i3<List.length l0)->(bcase ((List.length (tcellL (T.l t)):Int)==2)
 (∃ l4:List T,[sT (T.l t),AV.func (Go.Fn.func 243) [] []]=[sT l4,AV.func (Go.Fn.func 243) [] []]/\(List.length l4<=1000000/\(∀ x5:T,((x5∈l4)->(T.small x5/\SizeOf.sizeOf x5<N))))/\Q (AV.bool (!(List.any l4 zSR))) (Ut (Ut zJZ)))
 (bcase ((List.length (tcellL (T.l t)):Int)==1)
 (bcase (zAI (T.s t) { data:=#[45] })
 (∃ l4:List T,[sT (T.l t),AV.func (Go.Fn.func 243) [] []]=[sT l4,AV.func (Go.Fn.func 243) [] []]/\(List.length l4<=1000000/\(∀ x5:T,((x5∈l4)->(T.small x5/\SizeOf.sizeOf x5<N))))/\Q (AV.bool (!(List.any l4 zSR))) (Ut (Ut zJZ)))
 (Q (AV.bool false) (Ut zJZ)))
 (Q (AV.bool false) (Ut zJZ)))))))/\(((List.any l0 fun x=>zAI s1 x)=false)->(Q (AV.bool false) (Ut zJZ))))
 (Q (AV.bool false) zJZ)))):=by kernel_rfl
end Go.V
set_option linter.unusedSimpArgs false
set_option linter.unusedSectionVars false
namespace Go.V
open Go Go.Proofs

section
variable {B:Nat} {w0:World} {G:Nat->AV}
theorem loop209b (s:ByteArray) (Q:zDW) (a:zDN) (σ:zA6) (h:L209b s (.loop (zJU Tryz.prog 209 0)) Q a σ):AWp (EV B w0 G) none (zJ8 Tryz.prog 209) (.loop (zJU Tryz.prog 209 0)) Q a σ:=by
 refine zJS (zSQ s) (x0:=0) (fun pos hI=>zN0 (zKM B w0 G) zMZ (by kernel_rfl) (by kernel_rfl) ((vc209bl B w0 G s pos).mpr ?_)) (fun x hI e a σ hne k => ?_) ⟨s.size+1,by omega,rfl⟩ h.1
 ·obtain ⟨n,hn,hb⟩:=hI
  obtain ⟨n,rfl⟩:∃ k,n=k+1:=⟨n - 1,by omega⟩
  unfold zMS at hb
  refine zE2 (fun h1 => ?_) (fun h1 => ?_)
  ·have h1:pos<s.size:=by simpa using h1
   rw [if_pos h1] at hb
   refine zE2 (fun h2 => ?_) (fun h2=>zE2 (fun h3 => ?_) (fun h3 => ?_))
   ·have h2:((Utf8.decode s pos).1:Int)<32:=by simpa using h2
    rw [if_pos (.inl h2)] at hb
    exact ⟨fun e=>by omega,by rw [hb],rfl,trivial⟩
   ·have h3:((Utf8.decode s pos).1:Int) > 126:=by simpa using h3
    rw [if_pos (.inr h3)] at hb
    exact ⟨fun e=>by omega,by rw [hb],rfl,trivial⟩
   ·have h2:¬ ((Utf8.decode s pos).1:Int)<32:=by simpa using h2
    have h3:¬ ((Utf8.decode s pos).1:Int) > 126:=by simpa using h3
    rw [if_neg (by omega)] at hb
    have:=zMY s pos
    exact ⟨pos+(Utf8.decode s pos).2,⟨⟨n,by omega,hb⟩,show s.size - (pos+(Utf8.decode s pos).2)<s.size - pos by omega⟩,rfl,rfl,rfl,rfl,rfl,trivial⟩
  ·have h1:¬ pos<s.size:=by simpa using h1
   rw [if_neg h1] at hb
   exact ⟨hb,rfl,trivial⟩
 ·cases e with
  | exit id =>
   cases id with
   | zero=>exact zJT k.2 (h.2.1 k.1)
   | succ id=>exact k.elim
  | ret=>exact zJT k.2 (h.2.2 k.1)
  | normal=>exact absurd rfl hne
  | _=>exact k.elim
variable (hG:∀ i,zJV (G i))
include hG
theorem c209b_ok:zJD (EV B w0 G) 209 C209b:=by
 rintro args σ Q ⟨s,rfl,hQ⟩
 refine zN1 hG (noIdL_ok [.str s,.func (.func 223) [] [],.bool true] rfl).1 (.int _ _) (fun Q hQ => ?_) hQ
 refine zJ9 (zKM B w0 G) zMZ (fun l hl _ Q a σ k => ?_) ((vc209b B w0 G s Q).mpr ⟨⟨rfl,rfl,rfl,rfl,rfl,trivial⟩,fun e=>by rw [<-e]; exact hQ _,fun e=>hQ _⟩)
 change l∈zJ7 Tryz.prog 209 at hl
 rw [zMW] at hl
 simp only [List.mem_cons,List.not_mem_nil,or_false] at hl
 subst hl
 exact loop209b s Q a σ k
theorem c212_ok:zJD (EV B w0 G) 212 C212:=by
 rintro args σ Q ⟨s,rfl,hQ⟩
 refine zN1 hG (noIdL_ok [.str s] rfl).1 (.bool _) (fun Q hQ => ?_) hQ
 refine zKF (cuts:=[]) (zKM B w0 G) (zJJ (zKM B w0 G) (zJI (c209b_ok hG) zJH)) (fun lp hl _ Q a' σ' kk=>kk.elim) ((vc212 B w0 G s Q).mpr ?_)
 unfold zMT at hQ
 refine zE2 (fun h1=>zE2 (fun h2=>⟨s,rfl,?_⟩) (fun h2 => ?_)) (fun h1 => ?_)
 ·rw [h1,h2] at hQ
  have e:(!decide (bad s ≥ 0))=decide (bad s<0):=by
   by_cases hb:bad s<0
   ·rw [decide_eq_true hb,decide_eq_false (by omega)]; rfl
   ·rw [decide_eq_false hb,decide_eq_true (by omega)]; rfl
  rw [e]; exact hQ _
 ·rw [h1,h2] at hQ; exact hQ _
 ·rw [h1] at hQ; exact hQ _
theorem c242_ok:zJD (EV B w0 G) 242 C242:=by
 rintro args σ Q ⟨l,s,m,rfl,⟨hlen,hm⟩,hQ1,hQ2⟩
 refine zDV.pure hG (Q0:=fun u _=>(l.any (fun x=>zAI s x)=true/\∃ i:Nat,i<l.length/\u=iZ (i:Int))\/(l.any (fun x=>zAI s x)=false/\u=iZ (-1))) (fun v hv => ?_) ?_ (fun u σ' k => ?_)
 ·simp only [List.mem_cons,List.not_mem_nil,or_false] at hv
  rcases hv with rfl | rfl
  ·exact .slice hm fun x hx=>by
    unfold zA0 at hx
    obtain ⟨z,hz,hx⟩:=List.mem_flatMap.1 hx
    obtain ⟨y,_,rfl⟩:=List.mem_map.1 hz
    obtain rfl:x = .str y:=by simpa [AV.cells] using hx
    exact .str _
  ·exact .str _
 ·refine zKF (cuts:=[]) (zKM B w0 G) zMZ (fun lp hl _ Q a' σ kk => ?_) ((vc242 B w0 G l s m _).mpr ⟨⟨rfl,rfl,by rw [List.length_map],rfl,.refl _⟩,fun h σ' => .inr ⟨h,rfl⟩,fun i h hi σ' => .inl ⟨h,i,hi,rfl⟩⟩)
  change lp∈zKE Tryz.prog [] 242 at hl
  rw [zST] at hl
  simp only [List.mem_cons,List.not_mem_nil,or_false] at hl
  subst hl
  obtain ⟨hat,hR1,hR2⟩:=kk
  refine zK5 (zSS l s m) (x0:=0) (fun i hI => ?_) (fun i hI e a' σ hne kk => ?_) ⟨Nat.zero_le _,by simp⟩ hat
  ·obtain ⟨hi,hg⟩:i<=l.length/\(l.take i).any (fun x=>zAI s x)=false:=hI
   refine zP3 zMZ (zKM B w0 G) (by kernel_rfl) ((vc242l B w0 G l s m i).mpr (zE2 (fun h => ?_) (fun h=>⟨fun h2 => ?_,trivial⟩)))
   ·have h:=of_decide_eq_true h
    have hi2:i<l.length:=by omega
    have ht:(l.take (i+1)).any (fun x=>zAI s x)=zAI s l[i]:=by
     rw [List.take_succ_eq_append_getElem hi2,List.any_append,hg]; simp
    refine ⟨⟨by omega,by rw [List.length_map]; omega⟩,l[i],?_,zE2 (fun hp=>⟨⟨?_,hi2⟩,rfl,trivial⟩) (fun hp=>⟨i+1,⟨⟨hi2,by rw [ht]; exact hp⟩,?_⟩,rfl,rfl,rfl,?_,.refl _⟩)⟩
    ·rw [Int.toNat_natCast,List.getD_eq_getElem?_getD,List.getElem?_map,List.getElem?_eq_getElem hi2]; rfl
    ·rw [List.any_eq_true]; exact ⟨l[i],List.getElem_mem hi2,hp⟩
    ·show l.length - (i+1)<l.length - i
     omega
    ·rw [show ((i:Int)+1)=((i+1:Nat):Int) by omega,zN8 (by omega) (by omega)]
   ·have h:=of_decide_eq_false h
    omega
  ·obtain ⟨hi,hg⟩:i<=l.length/\(l.take i).any (fun x=>zAI s x)=false:=hI
   cases e with
   | exit j =>
    match j,kk with
    | 0,kk =>
     have hk:¬ i<l.length:=kk.1
     rw [show i=l.length by omega,List.take_length] at hg
     exact ⟨_,σ,(zJM kk.2).1,.refl _,hR1 hg σ⟩
   | ret=>exact ⟨_,σ,(zJM kk.2).1,.refl _,hR2 i kk.1.1 kk.1.2 σ⟩
   | normal=>exact absurd rfl hne
   | _=>exact kk.elim
 ·rcases k with ⟨h1,i,hi,rfl⟩ | ⟨h1,rfl⟩
  ·exact ⟨_,.refl _,.int _ _,hQ1 h1 i hi⟩
  ·exact ⟨_,.refl _,.int _ _,hQ2 h1⟩
omit hG in
theorem zSU (l:List T):(!l.any zSR)=l.all zRZ:=by
 induction l with
 | nil=>rfl
 | cons x l ih=>rw [List.any_cons,List.all_cons,Bool.not_or,ih]; unfold zSR; rw [Bool.not_not]
omit hG in
theorem c243_ok {N:Nat} (h:zJD (EV B w0 G1) 240 (C240 N)):zJD (EV B w0 G1) 243 (CPn N):=by
 rintro args σ Q ⟨t,rfl,hR,hQ⟩
 refine zN1 zLR (fun v hv => ?_) (.bool _) (fun Q hQ => ?_) hQ
 ·simp only [List.mem_cons,List.not_mem_nil,or_false] at hv
  subst hv; exact zMK t
 exact zKF (cuts:=[]) (zKM B w0 G1) (zJJ (zKM B w0 G1) (zJI h zJH)) (fun lp hl _ Q a' σ' kk=>kk.elim) ((vc243 B w0 G1 N t Q).mpr ⟨t,rfl,hR,hQ _⟩)
omit hG in
theorem zSV:∀ N,zJD (EV B w0 G1) 240 (C240 N)
 | 0=>by
  rintro args σ Q ⟨t,rfl,⟨_,hN⟩,hQ⟩
  omega
 | N+1=>by
  rintro args σ Q ⟨t,rfl,⟨hsm,hN⟩,hQ⟩
  refine zN1 zLR (fun v hv => ?_) (.bool _) (fun Q hQ => ?_) hQ
  ·simp only [List.mem_cons,List.not_mem_nil,or_false] at hv
   subst hv; exact zMK t
  have hc:zJD (EV B w0 G1) 192 (C192e N):=zSP zLR (by unfold Has; kernel_rfl) (c243_ok (zSV N))
  have hl:t.l.length<=64:=T.small_len hsm
  have hm:∀ x∈t.l,x.small/\SizeOf.sizeOf x<N:=fun x hx=>⟨T.small_mem hsm hx,by have:=T.sizeOf_mem hx; omega⟩
  refine zKF (cuts:=[]) (zKM B w0 G1) (zJJ (zKM B w0 G1) (zJI hc (zJI (c242_ok zLR) zJH))) (fun lp hl _ Q a' σ' kk=>kk.elim) ((vc240 B w0 N t Q).mpr ?_)
  have hQ:∀ σ',Q (.bool (zRZ t)) σ':=hQ
  rw [zS1] at hQ
  rw [zMH]
  have e2:∀ n:Nat,((t.l.length:Int)==(n:Int))=decide (t.l.length=n):=fun n=>by
   by_cases h:t.l.length=n
   ·rw [h,decide_eq_true rfl]; simp
   ·rw [decide_eq_false h]
    exact beq_eq_false_iff_ne.2 (by omega)
  refine zE2 (fun h1 => ?_) (fun h1=>zE2 (fun h2 => ?_) (fun h2=>zE2 (fun h3=>⟨zRY,t.s,.nn,rfl,⟨by decide,by simp⟩,fun h4 i hi => ?_,fun h4 => ?_⟩) (fun h3 => ?_)))
  ·rw [show decide (t.k=2)=true from h1] at hQ; exact hQ _
  ·rw [show decide (t.k=2)=false from h1,show decide (t.k=1)=true from h2] at hQ; exact hQ _
  all_goals
   rw [show decide (t.k=2)=false from h1,show decide (t.k=1)=false from h2,if_neg (by simp)] at hQ
  ·rw [show decide (t.k=5)=true from h3,h4,Bool.true_and,Bool.true_and] at hQ
   refine zE2 (fun h5=>⟨t.l,rfl,⟨by omega,hm⟩,?_⟩) (fun h5=>zE2 (fun h6=>zE2 (fun h7=>⟨t.l,rfl,⟨by omega,hm⟩,?_⟩) (fun h7 => ?_)) (fun h6 => ?_))
   ·rw [zSU]
    rw [show decide (t.l.length=2)=true from (e2 2).symm.trans h5,Bool.true_or,Bool.true_and] at hQ
    exact hQ _
   all_goals rw [show decide (t.l.length=2)=false from (e2 2).symm.trans h5,Bool.false_or] at hQ
   ·rw [zSU]
    rw [show decide (t.l.length=1)=true from (e2 1).symm.trans h6,show zAI t.s zRX=true from h7,Bool.true_and,Bool.true_and] at hQ
    exact hQ _
   ·rw [show zAI t.s zRX=false from h7,Bool.and_false,Bool.false_and] at hQ
    exact hQ _
   ·rw [show decide (t.l.length=1)=false from (e2 1).symm.trans h6,Bool.false_and,Bool.false_and] at hQ
    exact hQ _
  ·rw [h4,Bool.false_and,Bool.and_false] at hQ
   exact hQ _
  ·rw [show decide (t.k=5)=false from h3,Bool.false_and] at hQ
   exact hQ _
end
end Go.V
namespace Go.V
open Go Go.Proofs
variable (B:Nat) (w0:World) (G:Nat->AV)
def C238 (es:List (AV×AV)):zJC:=fun args σ K=>args=[]/\(σ=zJZ/\K (.map 0) (zJZ.new (.map es)))
theorem vc238 (Q:AV->zA6->Prop):(zKD [] (EV B w0 G) (H0 (EV B w0 G)) nL zHI zMV 238 [] zJZ Q) =
 (Q (AV.map 0) (zA6.set (zA6.set (zA6.set (zA6.set (zA6.set (zA6.set (zA6.set (zA6.set (zA6.new zJZ (zA5.map [])) 0 (zA5.map [Prod.mk (AV.str ⟨⟨[119,97,105,116]⟩⟩) (iZ 1)])) 0 (zA5.map [Prod.mk (AV.str ⟨⟨[119,97,105,116]⟩⟩) (iZ 1),Prod.mk (AV.str ⟨⟨[105,110,116,101,103,101,114]⟩⟩) (iZ 1)])) 0 (zA5.map [Prod.mk (AV.str ⟨⟨[119,97,105,116]⟩⟩) (iZ 1),Prod.mk (AV.str ⟨⟨[105,110,116,101,103,101,114]⟩⟩) (iZ 1),Prod.mk (AV.str ⟨⟨[97,116,111,109]⟩⟩) (iZ 1)])) 0 (zA5.map [Prod.mk (AV.str ⟨⟨[119,97,105,116]⟩⟩) (iZ 1),Prod.mk (AV.str ⟨⟨[105,110,116,101,103,101,114]⟩⟩) (iZ 1),Prod.mk (AV.str ⟨⟨[97,116,111,109]⟩⟩) (iZ 1),Prod.mk (AV.str ⟨⟨[115,116,114,105,110,103]⟩⟩) (iZ 1)])) 0 (zA5.map [Prod.mk (AV.str ⟨⟨[119,97,105,116]⟩⟩) (iZ 1),Prod.mk (AV.str ⟨⟨[105,110,116,101,103,101,114]⟩⟩) (iZ 1),Prod.mk (AV.str ⟨⟨[97,116,111,109]⟩⟩) (iZ 1),Prod.mk (AV.str ⟨⟨[115,116,114,105,110,103]⟩⟩) (iZ 1),Prod.mk (AV.str ⟨⟨[118,101,99,116,111,114]⟩⟩) (iZ 1)])) 0 (zA5.map [Prod.mk (AV.str ⟨⟨[119,97,105,116]⟩⟩) (iZ 1),Prod.mk (AV.str ⟨⟨[105,110,116,101,103,101,114]⟩⟩) (iZ 1),Prod.mk (AV.str ⟨⟨[97,116,111,109]⟩⟩) (iZ 1),Prod.mk (AV.str ⟨⟨[115,116,114,105,110,103]⟩⟩) (iZ 1),Prod.mk (AV.str ⟨⟨[118,101,99,116,111,114]⟩⟩) (iZ 1),Prod.mk (AV.str ⟨⟨[108,105,115,116]⟩⟩) (iZ 1)])) 0 (zA5.map [Prod.mk (AV.str ⟨⟨[119,97,105,116]⟩⟩) (iZ 1),Prod.mk (AV.str ⟨⟨[105,110,116,101,103,101,114]⟩⟩) (iZ 1),Prod.mk (AV.str ⟨⟨[97,116,111,109]⟩⟩) (iZ 1),Prod.mk (AV.str ⟨⟨[115,116,114,105,110,103]⟩⟩) (iZ 1),Prod.mk (AV.str ⟨⟨[118,101,99,116,111,114]⟩⟩) (iZ 1),Prod.mk (AV.str ⟨⟨[108,105,115,116]⟩⟩) (iZ 1),Prod.mk (AV.str ⟨⟨[61,61]⟩⟩) (iZ 2)])) 0 (zA5.map [Prod.mk (AV.str ⟨⟨[119,97,105,116]⟩⟩) (iZ 1),Prod.mk (AV.str ⟨⟨[105,110,116,101,103,101,114]⟩⟩) (iZ 1),Prod.mk (AV.str ⟨⟨[97,116,111,109]⟩⟩) (iZ 1),Prod.mk (AV.str ⟨⟨[115,116,114,105,110,103]⟩⟩) (iZ 1),Prod.mk (AV.str ⟨⟨[118,101,99,116,111,114]⟩⟩) (iZ 1),Prod.mk (AV.str ⟨⟨[108,105,115,116]⟩⟩) (iZ 1),Prod.mk (AV.str ⟨⟨[61,61]⟩⟩) (iZ 2),Prod.mk (AV.str ⟨⟨[92,61,61]⟩⟩) (iZ 2)]))):=by kernel_rfl
def C215 (N:Nat):zJC:=fun args σ K=>∃ t:T,args=[.agg (tc t)]/\(t.size<=1099511627776/\SizeOf.sizeOf t<N)/\K (.tuple [iZ (t.size:Int),iZ (t.deep:Int)]) σ.untok
structure zSW where
 i:Nat
 n:Int
 d:Int
def zSX (t:T) (I:zSW->Prop):LS zSW where
 F y:=[(4,.v (iZ y.n)),(5,.v (iZ y.d)),(11,.v (slV t.l)),(12,.v (iZ (t.l.length:Int))),(13,.v (iZ (y.i:Int)))]
 FL _:=[]
 S _:=zJZ
 I:=I
 μ y:=t.l.length - y.i
 Ex y e a σ:=match e with
  | .exit 0=>¬ (y.i<t.l.length)/\atF a [(4,.v (iZ y.n)),(5,.v (iZ y.d))] [] True
  | _=>False
def N215:zIE:=hAt [(4,0,hT)]
theorem zSY:zKE Tryz.prog [] 215=[.loop (lB 215 0)]:=by kernel_rfl
theorem vc215l (N:Nat) (t:T) (I:zSW->Prop) (y:zSW):(wpX [] (EV B w0 G) (hnd (EV B w0 G) zHI zMU [(215,C215 N)]) nL (zHI 215) N215 (lB 215 0) ((zSX t I).post y) (frm ((zSX t I).F y) []) zJZ) =
 (bcase (decide ((zSW.i y:Int)<(List.length (T.l t):Int)))
 (((0:Int)<=(zSW.i y:Int)/\(zSW.i y:Int)<(List.length (tcellL (T.l t)):Int))/\∃ x0:T,AV.vptr (AV.cells (List.getD (tcellL (T.l t)) (Int.toNat (↑(zSW.i y):Int)) AV.undef))=AV.vptr (tc x0)/\∃ t1:T,[AV.agg (tc x0)]=[AV.agg (tc t1)]/\(T.size t1<=1099511627776/\SizeOf.sizeOf t1<N)/\∃ x'2:zSW,(I x'2/\LS.μ (zSX t I) x'2<LS.μ (zSX t I) y)/\TV.v (iZ (IntKind.wrap .i64 ((zSW.n y)+(T.size t1:Int))))=TV.v (iZ (zSW.n x'2))/\TV.v (iZ (if Bool.true=Bool.true then if (↑(T.deep t1):Int) > zSW.d y then (↑(T.deep t1):Int) else zSW.d y else if (↑(T.deep t1):Int)<zSW.d y then (↑(T.deep t1):Int) else zSW.d y))=TV.v (iZ (zSW.d x'2))/\Rf (TV.v (sT (T.l t)))/\Rf (TV.v (iZ (List.length (T.l t):Int)))/\TV.v (iZ (IntKind.wrap .i64 ((zSW.i y:Int)+1)))=TV.v (iZ (zSW.i x'2:Int))/\zA6.Le ((zSX t I).3 x'2) (Ut zJZ))
 (((zSW.i y<List.length (T.l t))->False)/\Rf (TV.v (iZ (zSW.n y)))/\Rf (TV.v (iZ (zSW.d y)))/\True)):=by kernel_rfl
def T215 (t:T) (I:zSW->Prop) (n d:Int):zFV:=fun _ Q a σ=>(I ⟨0,1,0⟩/\atF a ((zSX t I).F ⟨0,1,0⟩) [] (zJZ.Le σ))/\∀ σ':zA6,Q (.exit 0) (frm [(4,.v (iZ n)),(5,.v (iZ d))] []) σ'
theorem vc215 (N:Nat) (t:T) (I:zSW->Prop) (n d:Int) (Q:AV->zA6->Prop):(zKD [] (EV B w0 G) (hnd (EV B w0 G) zHI zMU [(215,C215 N)]) (T215 t I n d) zHI N215 215 [.agg (tc t)] zJZ Q) =
 ((I ({ i:=0,n:=1,d:=0 })/\Rf (TV.v (iZ 1))/\Rf (TV.v (iZ 0))/\Rf (TV.v (sT (T.l t)))/\TV.v (iZ (List.length (tcellL (T.l t)):Int))=TV.v (iZ (List.length (T.l t):Int))/\Rf (TV.v (iZ 0))/\zA6.Le zJZ zJZ)/\(∀ σ'0:zA6,Q (AV.tuple [iZ n,iZ (IntKind.wrap .i64 (d+1))]) σ'0)):=by kernel_rfl
def C190:zJC:=fun args σ K=>∃ l:List T,args=[slV l]/\(l.length<=1000000/\∀ x∈l,zND x=0)/\K (iZ (sizeL l:Int)) σ.untok
def zSZ (l:List T):LS Nat where
 F i:=[(3,.v (iZ (sizeL (l.take i):Int))),(8,.v (slV l)),(9,.v (iZ (l.length:Int))),(10,.v (iZ (i:Int)))]
 FL _:=[]
 S _:=zJZ
 I i:=i<=l.length
 μ i:=l.length - i
 Ex i e a σ:=match e with
  | .exit 0=>¬ (i<l.length)/\atF a [(3,.v (iZ (sizeL (l.take i):Int)))] [] True
  | _=>False
def N190:zIE:=hAt [(4,0,hT)]
theorem zT0:zKE Tryz.prog [] 190=[.loop (lB 190 0)]:=by kernel_rfl
theorem vc190l (N:Nat) (l:List T) (i:Nat):(wpX [] (EV B w0 G) (hnd (EV B w0 G) zHI zMU [(215,C215 N)]) nL (zHI 190) N190 (lB 190 0) ((zSZ l).post i) (frm ((zSZ l).F i) []) zJZ) =
 (bcase (decide ((i:Int)<(List.length l:Int)))
 (((0:Int)<=(i:Int)/\(i:Int)<(List.length (tcellL l):Int))/\∃ x0:T,AV.vptr (AV.cells (List.getD (tcellL l) (Int.toNat (↑i:Int)) AV.undef))=AV.vptr (tc x0)/\∃ t1:T,[AV.agg (tc x0)]=[AV.agg (tc t1)]/\(T.size t1<=1099511627776/\SizeOf.sizeOf t1<N)/\∃ x'2:Nat,(LS.I (zSZ l) x'2/\LS.μ (zSZ l) x'2<LS.μ (zSZ l) i)/\TV.v (iZ (IntKind.wrap .i64 ((sizeL (List.take i l):Int)+(T.size t1:Int))))=TV.v (iZ (sizeL (List.take x'2 l):Int))/\Rf (TV.v (sT l))/\Rf (TV.v (iZ (List.length l:Int)))/\TV.v (iZ (IntKind.wrap .i64 ((i:Int)+1)))=TV.v (iZ (x'2:Int))/\zA6.Le ((zSZ l).3 x'2) (Ut zJZ))
 (((i<List.length l)->False)/\Rf (TV.v (iZ (sizeL (List.take i l):Int)))/\True)):=by kernel_rfl
def T190 (l:List T):zFV:=fun _ Q a σ=>atF a ((zSZ l).F 0) [] (zJZ.Le σ)/\∀ σ':zA6,Q (.exit 0) (frm [(3,.v (iZ (sizeL l:Int)))] []) σ'
theorem vc190 (N:Nat) (l:List T) (Q:AV->zA6->Prop):(zKD [] (EV B w0 G) (hnd (EV B w0 G) zHI zMU [(215,C215 N)]) (T190 l) zHI N190 190 [slV l] zJZ Q) =
 ((Rf (TV.v (iZ 0))/\Rf (TV.v (sT l))/\TV.v (iZ (List.length (tcellL l):Int))=TV.v (iZ (List.length l:Int))/\Rf (TV.v (iZ 0))/\zA6.Le zJZ zJZ)/\(∀ σ'0:zA6,Q (iZ (sizeL l:Int)) σ'0)):=by kernel_rfl
def C106:zJC:=fun args σ K=>∃ l:List T,args=[slV l]/\l.length<=1000000/\K (iZ (if zS5 l=true then 0 else 3)) σ.untok
def zT1 (l:List T):LS Nat where
 F i:=[(3,.v (iZ (4000 - (sizeL (l.take i):Int)))),(4,.l 4 0),(9,.v (slV l)),(10,.v (iZ (l.length:Int))),(11,.v (iZ (i:Int)))]
 FL _:=[(4,zMM.cells)]
 S _:=zJZ
 I i:=i<=l.length/\zS5 (l.take i)=true
 μ i:=l.length - i
 Ex i e a σ:=match e with
  | .exit 0=>zS5 l=true/\atF a [] [] True
  | .ret=>zS5 l=false/\atF a [(2,.v (iZ 3))] [] True
  | _=>False
def N106:zIE:=hAt [(4,0,hT)]
theorem zT2:zKE Tryz.prog [] 106=[.loop (lB 106 0)]:=by kernel_rfl
def H106 (E:Env) (N:Nat):zDY:=hnd E zHI zMU [(129,C129),(130,C130 N)]
theorem vc106l (N:Nat) (l:List T) (i:Nat):(wpX [] (EV B w0 G) (H106 (EV B w0 G) N) nL (zHI 106) N106 (lB 106 0) ((zT1 l).post i) (frm ((zT1 l).F i) ((zT1 l).FL i)) zJZ) =
 (bcase (decide ((i:Int)<(List.length l:Int)))
 (((0:Int)<=(i:Int)/\(i:Int)<(List.length (tcellL l):Int))/\∃ x0:T,AV.vptr (AV.cells (List.getD (tcellL l) (Int.toNat (↑i:Int)) AV.undef))=AV.vptr (tc x0)/\∃ t1:T,∃ left2:Int,∃ deep3:Int,[AV.agg (tc x0),iZ (4000 - (sizeL (List.take i l):Int)),iZ 600,AV.agg [AV.nilfunc,AV.func (Go.Fn.func 151) [] [AV.vptr [AV.func (Go.Fn.func 150) [] []]],AV.func (Go.Fn.func 152) [] [AV.vptr [AV.func (Go.Fn.func 150) [] []]],AV.func (Go.Fn.func 153) [] [AV.vptr [AV.func (Go.Fn.func 150) [] []]],AV.func (Go.Fn.func 155) [] [AV.vptr [AV.func (Go.Fn.func 150) [] []]],AV.func (Go.Fn.func 156) [] [AV.vptr [AV.func (Go.Fn.func 150) [] []]],AV.func (Go.Fn.func 157) [] [AV.vptr [AV.func (Go.Fn.func 150) [] []]]]]=[AV.agg (tc t1),iZ left2,iZ deep3,AV.agg [AV.nilfunc,AV.func (Go.Fn.func 151) [] [AV.vptr [AV.func (Go.Fn.func 150) [] []]],AV.func (Go.Fn.func 152) [] [AV.vptr [AV.func (Go.Fn.func 150) [] []]],AV.func (Go.Fn.func 153) [] [AV.vptr [AV.func (Go.Fn.func 150) [] []]],AV.func (Go.Fn.func 155) [] [AV.vptr [AV.func (Go.Fn.func 150) [] []]],AV.func (Go.Fn.func 156) [] [AV.vptr [AV.func (Go.Fn.func 150) [] []]],AV.func (Go.Fn.func 157) [] [AV.vptr [AV.func (Go.Fn.func 150) [] []]]]]/\SizeOf.sizeOf t1<N/\bcase (decide (((zN4 t1 left2 deep3):Int) > (4000 - (sizeL (List.take i l):Int))))
 (zS5 l=false/\Rf (TV.v (iZ 3))/\True)
 (∃ x'4:Nat,((x'4<=List.length l/\zS5 (List.take x'4 l)=true)/\LS.μ (zT1 l) x'4<LS.μ (zT1 l) i)/\TV.v (iZ (IntKind.wrap .i64 ((4000 - (sizeL (List.take i l):Int)) - (zN4 t1 left2 deep3))))=TV.v (iZ (4000 - (sizeL (List.take x'4 l):Int)))/\Rf (TV.l 4 0)/\Rf (TV.v (sT l))/\Rf (TV.v (iZ (List.length l:Int)))/\TV.v (iZ (IntKind.wrap .i64 ((i:Int)+1)))=TV.v (iZ (x'4:Int))/\Rf [AV.nilfunc,AV.func (Go.Fn.func 151) [] [AV.vptr [AV.func (Go.Fn.func 150) [] []]],AV.func (Go.Fn.func 152) [] [AV.vptr [AV.func (Go.Fn.func 150) [] []]],AV.func (Go.Fn.func 153) [] [AV.vptr [AV.func (Go.Fn.func 150) [] []]],AV.func (Go.Fn.func 155) [] [AV.vptr [AV.func (Go.Fn.func 150) [] []]],AV.func (Go.Fn.func 156) [] [AV.vptr [AV.func (Go.Fn.func 150) [] []]],AV.func (Go.Fn.func 157) [] [AV.vptr [AV.func (Go.Fn.func 150) [] []]]]/\zA6.Le ((zT1 l).3 x'4) (Ut zJZ)))
 (zS5 l=true/\True)):=by kernel_rfl
def T106 (l:List T):zFV:=fun _ Q a σ=>atF a ((zT1 l).F 0) ((zT1 l).FL 0) (zJZ.Le σ)/\((zS5 l=true->∀ σ':zA6,Q (.exit 0) (frm [] []) σ')/\(zS5 l=false->∀ σ':zA6,Q .ret (frm [(2,.v (iZ 3))] []) σ'))
theorem vc106 (N:Nat) (l:List T) (Q:AV->zA6->Prop):(zKD [] (EV B w0 G) (H106 (EV B w0 G) N) (T106 l) zHI N106 106 [slV l] zJZ Q) =
 (([]:List AV)=[]/\(Rf (TV.v (iZ 4000))/\Rf (TV.l 4 0)/\Rf (TV.v (sT l))/\TV.v (iZ (List.length (tcellL l):Int))=TV.v (iZ (List.length l:Int))/\Rf (TV.v (iZ 0))/\Rf [AV.nilfunc,AV.func (Go.Fn.func 151) [] [AV.vptr [AV.func (Go.Fn.func 150) [] []]],AV.func (Go.Fn.func 152) [] [AV.vptr [AV.func (Go.Fn.func 150) [] []]],AV.func (Go.Fn.func 153) [] [AV.vptr [AV.func (Go.Fn.func 150) [] []]],AV.func (Go.Fn.func 155) [] [AV.vptr [AV.func (Go.Fn.func 150) [] []]],AV.func (Go.Fn.func 156) [] [AV.vptr [AV.func (Go.Fn.func 150) [] []]],AV.func (Go.Fn.func 157) [] [AV.vptr [AV.func (Go.Fn.func 150) [] []]]]/\zA6.Le zJZ (Ut zJZ))/\((zS5 l=true)->(∀ σ'0:zA6,Q (iZ 0) σ'0))/\((zS5 l=false)->(∀ σ'0:zA6,Q (iZ 3) σ'0))):=by kernel_rfl
end Go.V
namespace Go.V
open Go Go.Proofs

theorem zT3 (a b:List T):sizeL (a++b)=sizeL a+sizeL b:=by
 rw [zMN,zMN,zMN,List.map_append,List.sum_append]
theorem zT4 {l:List T} {i:Nat} (h:i<l.length):sizeL (l.take (i+1))=sizeL (l.take i)+l[i].size:=by
 rw [List.take_succ_eq_append_getElem h,zT3,zMN [l[i]]]; simp
theorem zT5 (l:List T) (i:Nat):sizeL (l.take i)<=sizeL l:=by
 have:=zT3 (l.take i) (l.drop i)
 rw [List.take_append_drop] at this
 omega
theorem zT6 {l:List T}:zS5 l=true↔(∀ x∈l,zND x=0)/\sizeL l<=4000:=by
 unfold zS5
 simp only [Bool.and_eq_true,List.all_eq_true,decide_eq_true_eq]
theorem zT7 {l:List T} {i:Nat} (h:i<l.length):zS5 (l.take (i+1))=true↔zS5 (l.take i)=true/\(zND l[i]=0/\sizeL (l.take i)+l[i].size<=4000):=by
 rw [zT6,zT6,zT4 h,List.take_succ_eq_append_getElem h]
 constructor
 ·intro ⟨h1,h2⟩
  exact ⟨⟨fun x hx=>h1 x (List.mem_append_left _ hx),by omega⟩,h1 l[i] (List.mem_append_right _ List.mem_cons_self),h2⟩
 ·intro ⟨⟨h1,_⟩,h3,h4⟩
  refine ⟨fun x hx => ?_,h4⟩
  rcases List.mem_append.1 hx with hx | hx
  ·exact h1 x hx
  ·obtain rfl:x=l[i]:=by simpa using hx
   exact h3
theorem togS_of {l:List T} (h:zS5 l=true) (i:Nat):zS5 (l.take i)=true:=by
 rw [zT6] at h ⊢
 exact ⟨fun x hx=>h.1 x (List.mem_of_mem_take hx),by have:=zT5 l i; omega⟩
theorem zT8 {t:T} {left:Int} (h0:0<=left) (h1:left<=4000):(zND t=0/\(t.size:Int)<=left->zN4 t left 600=t.size)/\(¬ (zND t=0/\(t.size:Int)<=left)->zN4 t left 600=left+1):=by
 have hc:=zOB t left 600 h0 h1 (by omega) (by omega)
 have hk:zND t=0↔(t.size:Int)<=4000/\(t.deep:Int)<=600/\zNW t=true:=by
  have:=zOB t 4000 600 (by omega) (by omega) (by omega) (by omega)
  unfold zND
  by_cases h:(t.size:Int)<=4000/\(t.deep:Int)<=600/\zNW t=true
  ·rw [this.1 h,if_neg (by omega)]; exact ⟨fun _=>h,fun _=>rfl⟩
  ·rw [this.2 h,if_pos (by omega)]; exact ⟨fun e=>(by cases e),fun k=>absurd k h⟩
 refine ⟨fun ⟨h2,h3⟩=>hc.1 ⟨h3,(hk.1 h2).2⟩,fun h2=>hc.2 fun ⟨h3,h4⟩=>h2 ⟨hk.2 ⟨by omega,h4⟩,h3⟩⟩

section
variable {B:Nat} {w0:World} {G:Nat->AV}
variable (hG:∀ i,zJV (G i))
include hG
theorem zT9:∀ N,zJD (EV B w0 G) 215 (C215 N)
 | 0=>by
  rintro args σ Q ⟨t,rfl,⟨_,hN⟩,hQ⟩
  omega
 | N+1=>by
  rintro args σ Q ⟨t,rfl,⟨hb,hN⟩,hQ⟩
  have hH:zIP (EV B w0 G) (hnd (EV B w0 G) zHI zMU [(215,C215 N)]):=zJJ (zKM B w0 G) (zJI (zT9 N) zJH)
  refine zN1 hG (fun v hv => ?_) (.tuple (by simp; exact ⟨.int _ _,.int _ _⟩)) (fun Q hQ => ?_) hQ
  ·simp only [List.mem_cons,List.not_mem_nil,or_false] at hv
   subst hv
   exact zMK t
  have h1:=t.size_eq
  have h2:=t.deep_eq
  have h4:=t.deep_size
  have hlen:=zMQ t.l
  let I:zSW->Prop:=fun y=>y.i<=t.l.length/\y.n=1+(sizeL (t.l.take y.i):Int)/\∃ d:Nat,y.d=(d:Int)/\max d (deepL (t.l.drop y.i))=deepL t.l
  refine zKF (cuts:=[]) (zKM B w0 G) hH (fun lp hl _ Q a' σ kk => ?_) ((vc215 B w0 G N t I (t.size:Int) (deepL t.l:Int) Q).mpr ⟨⟨⟨Nat.zero_le _,rfl,0,rfl,by rw [List.drop_zero]; omega⟩,rfl,rfl,rfl,by rw [zMH],rfl,.refl _⟩,fun σ' => ?_⟩)
  ·change lp∈zKE Tryz.prog [] 215 at hl
   rw [zSY] at hl
   simp only [List.mem_cons,List.not_mem_nil,or_false] at hl
   subst hl
   obtain ⟨⟨hI0,hat⟩,hR⟩:=kk
   refine zK5 (zSX t I) (x0:=⟨0,1,0⟩) (fun y hI => ?_) (fun y hI e a' σ hne kk => ?_) hI0 hat
   ·obtain ⟨i,n,d'⟩:=y
    obtain ⟨hi,hn,d,hd',hd⟩:=hI
    change i<=t.l.length at hi
    change n=1+(sizeL (t.l.take i):Int) at hn
    change d'=(d:Int) at hd'
    subst hd'
    change max d (deepL (t.l.drop i))=deepL t.l at hd
    refine zP3 hH (zKM B w0 G) (by kernel_rfl) ((vc215l B w0 G N t I ⟨i,n,(d:Int)⟩).mpr (zE2 (fun h => ?_) (fun h=>⟨fun h5 => ?_,rfl,rfl,trivial⟩)))
    ·have h:(i:Int)<(t.l.length:Int):=of_decide_eq_true h
     have hi2:i<t.l.length:=by omega
     have hs:=zT4 hi2
     have hle:=zT5 t.l (i+1)
     have hm:=zMR (List.getElem_mem hi2)
     rw [List.drop_eq_getElem_cons hi2,deepL] at hd
     refine ⟨⟨by show (0:Int)<=(i:Int); omega,by rw [zMH]; exact h⟩,t.l[i],by show AV.vptr (AV.cells (List.getD (tcellL t.l) (Int.toNat (i:Int)) AV.undef))=_; rw [Int.toNat_natCast]; exact zNA hi2,t.l[i],rfl,⟨by omega,by have:=T.sizeOf_mem (List.getElem_mem hi2); omega⟩,⟨i+1,n+t.l[i].size,((max d t.l[i].deep:Nat):Int)⟩,⟨⟨hi2,?_,max d t.l[i].deep,rfl,?_⟩,?_⟩,?_,?_,rfl,rfl,?_,zSM⟩
     ·show n+(t.l[i].size:Int)=1+(sizeL (t.l.take (i+1)):Int)
      omega
     ·show max (max d t.l[i].deep) (deepL (t.l.drop (i+1)))=deepL t.l
      omega
     ·show t.l.length - (i+1)<t.l.length - i
      omega
     ·show TV.v (iZ (IntKind.wrap .i64 (n+(t.l[i].size:Int))))=TV.v (iZ (n+(t.l[i].size:Int)))
      rw [zN8 (by omega) (by omega)]
     ·have e:(if Bool.true=Bool.true then if ((T.deep t.l[i]:Nat):Int) > (d:Int) then (T.deep t.l[i]:Int) else (d:Int) else if ((T.deep t.l[i]:Nat):Int)<(d:Int) then (T.deep t.l[i]:Int) else (d:Int))=((max d t.l[i].deep:Nat):Int):=by
       rw [if_pos rfl]
       split <;> omega
      exact congrArg (fun z=>TV.v (iZ z)) e
     ·show TV.v (iZ (IntKind.wrap .i64 ((i:Int)+1)))=TV.v (iZ ((i+1:Nat):Int))
      rw [zN8 (by omega) (by omega)]; rfl
    ·have h:¬ (i:Int)<(t.l.length:Int):=of_decide_eq_false h
     have h5:i<t.l.length:=h5
     omega
   ·obtain ⟨i,n,d'⟩:=y
    obtain ⟨hi,hn,d,hd',hd⟩:=hI
    change i<=t.l.length at hi
    change n=1+(sizeL (t.l.take i):Int) at hn
    change d'=(d:Int) at hd'
    subst hd'
    change max d (deepL (t.l.drop i))=deepL t.l at hd
    cases e with
    | exit j =>
     match j,kk with
     | 0,kk =>
      obtain ⟨hk,hat⟩:=kk
      have hk:¬ i<t.l.length:=hk
      rw [show i=t.l.length by omega,List.drop_length,deepL] at hd
      rw [show i=t.l.length by omega,List.take_length] at hn
      have e1:n=(t.size:Int):=by omega
      have e2:(d:Int)=(deepL t.l:Int):=by omega
      have hat:atF a' [(4,.v (iZ n)),(5,.v (iZ (d:Int)))] [] True:=hat
      rw [e1,e2] at hat
      exact ⟨_,σ,(zJM hat).1,.refl _,hR σ⟩
    | normal=>exact absurd rfl hne
    | _=>exact kk.elim
  ·have e:IntKind.wrap .i64 (((deepL t.l:Nat):Int)+1)=((t.deep:Nat):Int):=by rw [zN8 (by omega) (by omega)]; omega
   rw [e]; exact hQ _
theorem zTA:zJD (EV B w0 G) 190 C190:=by
 rintro args σ Q ⟨l,rfl,⟨hlen,hch⟩,hQ⟩
 have hH:zIP (EV B w0 G) (hnd (EV B w0 G) zHI zMU [(215,C215 (SizeOf.sizeOf l+1))]):=zJJ (zKM B w0 G) (zJI (zT9 hG _) zJH)
 refine zN1 hG (fun v hv => ?_) (.int _ _) (fun Q hQ => ?_) hQ
 ·simp only [List.mem_cons,List.not_mem_nil,or_false] at hv
  subst hv
  exact zQI l
 have bound:∀ i,sizeL (l.take i)<=4000*l.length:=fun i=>by
  have key:∀ m:List T,(∀ x∈m,zND x=0)->sizeL m<=4000*m.length:=by
   intro m
   induction m with
   | nil=>intro _; exact Nat.zero_le _
   | cons x m ih =>
    intro h
    have h1:=zQA (h x (by simp))
    have h2:=ih fun y hy=>h y (by simp [hy])
    rw [sizeL,List.length_cons]; omega
  have:=key l hch
  have:=zT5 l i
  omega
 refine zKF (cuts:=[]) (zKM B w0 G) hH (fun lp hl _ Q a' σ kk => ?_) ((vc190 B w0 G _ l Q).mpr ⟨⟨rfl,rfl,by rw [zMH],rfl,.refl _⟩,fun σ'=>hQ σ'⟩)
 change lp∈zKE Tryz.prog [] 190 at hl
 rw [zT0] at hl
 simp only [List.mem_cons,List.not_mem_nil,or_false] at hl
 subst hl
 obtain ⟨hat,hR⟩:=kk
 refine zK5 (zSZ l) (x0:=0) (fun i hI => ?_) (fun i hI e a' σ hne kk => ?_) (Nat.zero_le _) hat
 ·have hi:i<=l.length:=hI
  refine zP3 hH (zKM B w0 G) (by kernel_rfl) ((vc190l B w0 G _ l i).mpr (zE2 (fun h => ?_) (fun h=>⟨fun h2 => ?_,rfl,trivial⟩)))
  ·have h:=of_decide_eq_true h
   have hi2:i<l.length:=by omega
   have hm:=List.getElem_mem hi2
   have hs:=zT4 hi2
   have hbd:=bound (i+1)
   have hc:=zQA (hch _ hm)
   refine ⟨⟨by omega,by rw [zMH]; omega⟩,l[i],by rw [Int.toNat_natCast]; exact zNA hi2,l[i],rfl,⟨by omega,by have:=List.sizeOf_lt_of_mem hm; omega⟩,i+1,⟨hi2,?_⟩,?_,rfl,rfl,?_,zSM⟩
   ·show l.length - (i+1)<l.length - i
    omega
   ·rw [hs,show ((sizeL (l.take i):Int)+(l[i].size:Int))=((sizeL (l.take i)+l[i].size:Nat):Int) by omega,zN8 (by omega) (by omega)]
   ·rw [show ((i:Int)+1)=((i+1:Nat):Int) by omega,zN8 (by omega) (by omega)]
  ·have h:=of_decide_eq_false h
   omega
 ·have hi:i<=l.length:=hI
  cases e with
  | exit j =>
   match j,kk with
   | 0,kk =>
    obtain ⟨hk,hat⟩:=kk
    rw [show i=l.length by omega,List.take_length] at hat
    exact ⟨_,σ,(zJM hat).1,.refl _,hR σ⟩
  | normal=>exact absurd rfl hne
  | _=>exact kk.elim
theorem zTB:zJD (EV B w0 G) 106 C106:=by
 rintro args σ Q ⟨l,rfl,hlen,hQ⟩
 have hH:zIP (EV B w0 G) (H106 (EV B w0 G) (SizeOf.sizeOf l+1)):=zJJ (zKM B w0 G) (zJI (zNJ hG) (zJI (zNC hG _) zJH))
 refine zN1 hG (fun v hv => ?_) (.int _ _) (fun Q hQ => ?_) hQ
 ·simp only [List.mem_cons,List.not_mem_nil,or_false] at hv
  subst hv
  exact zQI l
 refine zKF (cuts:=[]) (zKM B w0 G) hH (fun lp hl _ Q a' σ kk => ?_) ((vc106 B w0 G _ l Q).mpr ⟨rfl,⟨rfl,rfl,rfl,by rw [zMH],rfl,rfl,zSM⟩,fun h σ'=>by rw [h] at hQ; exact hQ σ',fun h σ'=>by rw [h] at hQ; exact hQ σ'⟩)
 change lp∈zKE Tryz.prog [] 106 at hl
 rw [zT2] at hl
 simp only [List.mem_cons,List.not_mem_nil,or_false] at hl
 subst hl
 obtain ⟨hat,hR1,hR2⟩:=kk
 refine zK5 (zT1 l) (x0:=0) (fun i hI => ?_) (fun i hI e a' σ hne kk => ?_) ⟨Nat.zero_le _,rfl⟩ hat
 ·obtain ⟨hi,hg⟩:i<=l.length/\zS5 (l.take i)=true:=hI
  have hg2:=(zT6.1 hg).2
  refine zP3 hH (zKM B w0 G) (by kernel_rfl) ((vc106l B w0 G _ l i).mpr (zE2 (fun h => ?_) (fun h=>⟨?_,trivial⟩)))
  ·have h:=of_decide_eq_true h
   have hi2:i<l.length:=by omega
   have hm:=List.getElem_mem hi2
   have hc:=zT8 (t:=l[i]) (left:=4000 - (sizeL (l.take i):Int)) (by omega) (by omega)
   have ht:=zT7 hi2
   refine ⟨⟨by omega,by rw [zMH]; omega⟩,l[i],by rw [Int.toNat_natCast]; exact zNA hi2,l[i],_,_,rfl,by have:=List.sizeOf_lt_of_mem hm; omega,zE2 (fun h2=>⟨?_,rfl,trivial⟩) (fun h2 => ?_)⟩
   ·have h2:=of_decide_eq_true h2
    cases e:zS5 l with
    | false=>rfl
    | true =>
     have:=ht.1 (togS_of e (i+1))
     have:=hc.1 ⟨this.2.1,by omega⟩
     omega
   ·have h2:=of_decide_eq_false h2
    by_cases hk:zND l[i]=0/\(l[i].size:Int)<=4000 - (sizeL (l.take i):Int)
    ·have hcount:=hc.1 hk
     have hs:=zT4 hi2
     refine ⟨i+1,⟨⟨hi2,ht.2 ⟨hg,hk.1,by omega⟩⟩,?_⟩,?_,rfl,rfl,rfl,?_,rfl,zSM⟩
     ·show l.length - (i+1)<l.length - i
      omega
     ·rw [hcount,hs,zN8 (by omega) (by omega)]
      have e:(4000 - (sizeL (l.take i):Int)) - (l[i].size:Int)=4000 - ((sizeL (l.take i)+l[i].size:Nat):Int):=by omega
      rw [e]
     ·rw [show ((i:Int)+1)=((i+1:Nat):Int) by omega,zN8 (by omega) (by omega)]
    ·have:=hc.2 hk
     omega
  ·have h:=of_decide_eq_false h
   rw [show i=l.length by omega,List.take_length] at hg
   exact hg
 ·cases e with
  | exit j =>
   match j,kk with
   | 0,kk=>exact ⟨_,σ,(zJM kk.2).1,.refl _,hR1 kk.1 σ⟩
  | ret=>exact ⟨_,σ,(zJM kk.2).1,.refl _,hR2 kk.1 σ⟩
  | normal=>exact absurd rfl hne
  | _=>exact kk.elim
end
end Go.V
namespace Go.V
open Go Go.Proofs

theorem zTC:∀ (a b:List T) (out:List Int),zS6 (a++b) out=zS6 b (zS6 a out)
 | [],b,out=>rfl
 | x :: a,b,out=>by rw [List.cons_append,zS6,zS6,zTC a b]
theorem zTD (a:List T) (t:T):zS6 (a++[t]) []=if t.k=1/\t.n∉zS6 a [] then zS6 a []++[t.n] else zS6 a []:=by
 rw [zTC,zS6,zS6]
theorem zTE:∀ (a:List T) (out:List Int),(zS6 a out).length<=out.length+a.length
 | [],out=>Nat.le_refl _
 | x :: a,out=>by
  rw [zS6]
  have:=zTE a (if x.k=1/\x.n∉out then out++[x.n] else out)
  split at this
  ·rename_i h; rw [if_pos h,List.length_cons]; rw [List.length_append] at this; simp at this; omega
  ·rename_i h; rw [if_neg h,List.length_cons]; omega
theorem zTF (l:List T):(zS7 l).length<=(nodesTL l).length:=by
 have:=zTE (nodesTL l) []
 simpa [zS7] using this

def zTG (vs:List Int):List (AV×AV):=vs.map fun n=>(iZ n,AV.bool true)
theorem zTH (n:Int):∀ (vs:List Int) (i:Nat),∃ j:Nat,zAW Tryz.prog 3 (iZ n) (zTG vs) i=some (if n∈vs then some (j,.bool true) else none)
 | [],i=>⟨0,rfl⟩
 | a :: vs,i=>by
  unfold zTG
  rw [List.map_cons,zAW]
  dsimp only
  rw [zQ0]
  by_cases hn:n=a
  ·have hm:n∈a :: vs:=List.mem_cons.2 (.inl hn)
   rw [decide_eq_true hn]
   exact ⟨i,by rw [if_pos hm]⟩
  ·rw [decide_eq_false hn]
   obtain ⟨j,hj⟩:=zTH n vs (i+1)
   refine ⟨j,?_⟩
   dsimp only
   show zAW Tryz.prog 3 (iZ n) (zTG vs) (i+1)=_
   rw [hj]
   by_cases hm:n∈vs
   ·rw [if_pos hm,if_pos (List.mem_cons_of_mem _ hm)]
   ·rw [if_neg hm,if_neg (fun h=>(List.mem_cons.1 h).elim hn hm)]
theorem zTI (n:Int) (vs:List Int):zI9 Tryz.prog 273 (zTG vs) (iZ n) false (.bool (decide (n∈vs))):=by
 obtain ⟨j,hj⟩:=zTH n vs 0
 unfold zI9 zI8
 rw [zQ2]
 dsimp only
 rw [if_pos (zQ3 n),hj]
 by_cases hm:n∈vs
 ·rw [if_pos hm,decide_eq_true hm]; rfl
 ·rw [if_neg hm,decide_eq_false hm]
  obtain ⟨z,h1,h2⟩:=zer4
  dsimp only
  rw [h1]
  dsimp only
  rw [h2]; rfl
theorem mset_met {n:Int} {vs:List Int} (h:n∉vs):MSet Tryz.prog 273 (zTG vs) (iZ n) (.bool true) (zTG (vs++[n])):=by
 obtain ⟨j,hj⟩:=zTH n vs 0
 rw [if_neg h] at hj
 unfold MSet mset
 rw [zQ2]
 dsimp only
 rw [if_pos (zQ3 n),hj]
 dsimp only [zB5]
 unfold zTG
 rw [List.map_append]; rfl

def OutX (c:zK6 VR) (v:AV) (vs:List Int):Prop:=(v = .nilslice/\vs=[])\/∃ (ov:Nat) (g:Bool),v = .rslice ov 0 vs.length/\c .ov=some (ov,.cells (zP9 vs) 3 1 g)
def VX (io im mid:Nat) (L:Option (Nat×zA4)) (acc:List T) (σ:zA6):Prop:=∃ (c:zK6 VR) (v:AV) (g1 g2:Bool),
 At c σ/\c .oc=some (io,.cells [v] 26 1 g1)/\c .mc=some (im,.cells [.map mid] 273 1 g2)/\c .mp=some (mid,.map (zTG (zS6 acc [])))/\c .lp=L.map (fun x=>(x.1,.loop x.2))/\OutX c v (zS6 acc [])
theorem OutX.congr {c c':zK6 VR} {v:AV} {vs:List Int} (h:OutX c v vs) (hc:c' .ov=c .ov):OutX c' v vs:=by
 rcases h with h | ⟨ov,g,h1,h2⟩
 ·exact .inl h
 ·exact .inr ⟨ov,g,h1,by rw [hc]; exact h2⟩
theorem zTJ (l:List Int) (n:Int):zP9 l++[iZ n]=zP9 (l++[n]):=by unfold zP9; rw [List.map_append]; rfl

section
variable {B:Nat} {w0:World} {G:Nat->AV}
theorem zTK {io im mid yid:Nat} {l0:zA4} {acc:List T} {t:T} {σ:zA6} {Q:AV->zA6->Prop} (hr:l0.st = .ready) (hp0:l0.pend=none) (hb:acc.length<100000)
  (hS:VX io im mid (some (yid,l0)) acc σ) (hQ:∀ σ',VX io im mid (some (yid,l0)) (acc++[t]) σ'->Q (.bool true) σ') :
  wpC (EV B w0 G) (H0 (EV B w0 G)) nL (zHI 148) N148 (zPR (zPV Tryz.prog)) (zPT (EV B w0 G) (H0 (EV B w0 G)) nL (zHI 148) N148 yid (zPS (zPV Tryz.prog)) Q) (frm [(3,.v (.ptr io 0)),(4,.v (.ptr im 0)),(17,.v (.agg (tc t)))] []) σ:=by
 obtain ⟨c,v,g1,g2,h,ho,hm,hp,hl,hout⟩:=hS
 have hl:c .lp=some (yid,.loop l0):=hl
 have hvl:=zTE acc []
 simp only [List.length_nil,Nat.zero_add] at hvl
 have hag:l0.busy.again=l0:=by
  obtain ⟨a1,a2,a3,a4,a5,a6,a7,a8⟩:=l0
  dsimp only at hr hp0
  subst hr hp0
  rfl
 refine (vc148y B w0 G io im yid t σ Q).mpr ⟨l0,h.obj hl,hr,?_⟩
 obtain ⟨c1,h1,e1⟩:∃ c1:zK6 VR,At c1 (σ.set yid (.loop l0.busy))/\c1=hup c .lp (some (yid,.loop l0.busy)):=⟨_,h.set hl _,rfl⟩
 have o1:c1 .oc=some (io,.cells [v] 26 1 g1):=by rw [e1,zK8 (by simp),ho]
 have m1:c1 .mc=some (im,.cells [.map mid] 273 1 g2):=by rw [e1,zK8 (by simp),hm]
 have p1:c1 .mp=some (mid,.map (zTG (zS6 acc []))):=by rw [e1,zK8 (by simp),hp]
 have l1:c1 .lp=some (yid,.loop l0.busy):=by rw [e1,zK7]
 have v1:c1 .ov=c .ov:=by rw [e1,zK8 (by simp)]
 -- nothing new
 have same:¬ (t.k=1/\t.n∉zS6 acc [])->∃ l6:zA4,(σ.set yid (.loop l0.busy)).objs yid = .loop l6/\Q (.bool true) ((σ.set yid (.loop l0.busy)).set yid (.loop l6.again)):=fun hk=>by
  refine ⟨l0.busy,h1.obj l1,?_⟩
  rw [hag]
  have h2:=h1.set l1 (.loop l0)
  have ev:zS6 (acc++[t]) []=zS6 acc []:=by rw [zTD,if_neg hk]
  refine hQ _ ⟨_,v,g1,g2,h2,by rw [zK8 (by simp),o1],by rw [zK8 (by simp),m1],by rw [zK8 (by simp),p1,ev],by rw [zK7]; rfl,?_⟩
  rw [ev]; exact hout.congr (by rw [zK8 (by simp),v1])
 refine zE2 (fun hk => ?_) (fun hk=>same fun e=>by rw [e.1] at hk; simp at hk)
 have hk:t.k=1:=by simpa using hk
 refine ⟨⟨[.map mid],g2⟩,h1.obj m1,Nat.zero_lt_one,mid,rfl,zTG (zS6 acc []),h1.obj p1,_,zTI t.n _,decide (t.n∈zS6 acc []),rfl,zE2 (fun hbf => ?_) (fun hbt=>same fun h=>h.2 (by simpa using hbt))⟩
 have hn:t.n∉zS6 acc []:=by simpa using hbf
 have ev:zS6 (acc++[t]) []=zS6 acc []++[t.n]:=by rw [zTD,if_pos ⟨hk,hn⟩]
 obtain ⟨c2,h2,e2⟩:∃ c2:zK6 VR,At c2 ((σ.set yid (.loop l0.busy)).set mid (.map (zTG (zS6 acc []++[t.n]))))/\c2=hup c1 .mp (some (mid,.map (zTG (zS6 acc []++[t.n])))):=⟨_,h1.set p1 _,rfl⟩
 have o2:c2 .oc=some (io,.cells [v] 26 1 g1):=by rw [e2,zK8 (by simp),o1]
 have m2:c2 .mc=some (im,.cells [.map mid] 273 1 g2):=by rw [e2,zK8 (by simp),m1]
 have p2:c2 .mp=some (mid,.map (zTG (zS6 acc []++[t.n]))):=by rw [e2,zK7]
 have l2:c2 .lp=some (yid,.loop l0.busy):=by rw [e2,zK8 (by simp),l1]
 have v2:c2 .ov=c .ov:=by rw [e2,zK8 (by simp),v1]
 refine ⟨⟨[.map mid],g2⟩,h1.obj m1,Nat.zero_lt_one,mid,rfl,zTG (zS6 acc []),h1.obj p1,_,mset_met hn,⟨[v],g1⟩,h2.obj o2,Nat.zero_lt_one,?_⟩
 -- the list grows
 have done:∀ (c3:zK6 VR) (σ3:zA6) (g:Bool) (ov n:Nat),n=(zS6 acc []).length+1->At c3 σ3->c3 .oc=some (io,.cells [v] 26 1 g1)->c3 .mc=some (im,.cells [.map mid] 273 1 g2)->c3 .mp=some (mid,.map (zTG (zS6 acc []++[t.n])))->c3 .lp=some (yid,.loop l0.busy) ->
   c3 .ov=some (ov,.cells (zP9 (zS6 acc []++[t.n])) 3 1 g) ->
   ∃ a11:OE,σ3.objs io = .cells a11.cs 26 1 a11.g/\1<=a11.cs.length/\∃ l12:zA4,(σ3.set io (.cells (zAF a11.cs 0 [.rslice ov 0 n]) 26 1 a11.g)).objs yid = .loop l12 /\
    Q (.bool true) ((σ3.set io (.cells (zAF a11.cs 0 [.rslice ov 0 n]) 26 1 a11.g)).set yid (.loop l12.again)):=by
  intro c3 σ3 g ov n hn3 h3 o3 m3 p3 l3 v3
  refine ⟨⟨[v],g1⟩,h3.obj o3,Nat.le_refl _,?_⟩
  have h4:=h3.set o3 (.cells (zAF [v] 0 [.rslice ov 0 n]) 26 1 g1)
  have l4:hup c3 .oc (some (io,.cells (zAF [v] 0 [.rslice ov 0 n]) 26 1 g1)) .lp=some (yid,.loop l0.busy):=by rw [zK8 (by simp),l3]
  refine ⟨l0.busy,h4.obj l4,?_⟩
  rw [hag]
  have h5:=h4.set l4 (.loop l0)
  refine hQ _ ⟨_,.rslice ov 0 n,g1,g2,h5,by rw [zK8 (by simp),zK7]; rfl,by rw [zK8 (by simp),zK8 (by simp),m3],by rw [zK8 (by simp),zK8 (by simp),p3,ev],by rw [zK7]; rfl,.inr ⟨ov,g,?_,?_⟩⟩
  ·rw [ev,List.length_append,hn3]; rfl
  ·rw [ev,zK8 (by simp),zK8 (by simp),v3]
 rcases hout with ⟨k1,k2⟩ | ⟨ov,g,k1,k5⟩
 ·refine .inl ⟨k1,⟨by omega,by omega⟩,?_⟩
  have h3:=h2.new .ov (.cells [iZ t.n] 3 1 true)
  have:=done _ _ true σ.next 1 (by rw [k2]; rfl) h3 (by rw [zK8 (by simp),o2]) (by rw [zK8 (by simp),m2]) (by rw [zK8 (by simp),p2]) (by rw [zK8 (by simp),l2]) (by rw [zK7,k2]; rfl)
  exact this
 ·have v2':c2 .ov=some (ov,.cells (zP9 (zS6 acc [])) 3 1 g):=by rw [v2,k5]
  refine .inr ⟨⟨ov,(zS6 acc []).length⟩,k1,⟨zP9 (zS6 acc []),g⟩,h2.obj v2',⟨rfl,⟨by show ((zS6 acc []).length+1)*8<=_; omega,by show (zS6 acc []).length+1<=_; omega⟩,by show (zS6 acc []).length*1<=(zP9 (zS6 acc [])).length; rw [zPA]; omega⟩,?_⟩
  have ecs:(zP9 (zS6 acc [])).take ((zS6 acc []).length*1)++[iZ t.n]=zP9 (zS6 acc []++[t.n]):=by
   rw [Nat.mul_one,<-zPA,List.take_length,zTJ]
  have h3:=h2.grow v2' (.cells ((zP9 (zS6 acc [])).take ((zS6 acc []).length*1)++[iZ t.n]) 3 1 true)
  have:=done _ _ true σ.next ((zS6 acc []).length+1) rfl h3 (by rw [zK8 (by simp),o2]) (by rw [zK8 (by simp),m2]) (by rw [zK8 (by simp),p2]) (by rw [zK8 (by simp),l2]) (by rw [zK7,ecs]; rfl)
  exact this

def C148x:zJC:=fun args σ K=>∃ l:List T,args=[.slice 4 (tcellL l) .any]/\(nodesTL l).length<=100000/\K (.slice 1 (zP9 (zS7 l)) .any) σ.untok

theorem VX.off {io im mid yid:Nat} {l0:zA4} {acc:List T} {σ:zA6} (h:VX io im mid (some (yid,l0)) acc σ):VX io im mid none acc (σ.set yid .dead):=by
 obtain ⟨c,v,g1,g2,h,ho,hm,hp,hl,hout⟩:=h
 have hl:c .lp=some (yid,.loop l0):=hl
 exact ⟨_,v,g1,g2,h.kill hl,by rw [zK8 (by simp),ho],by rw [zK8 (by simp),hm],by rw [zK8 (by simp),hp],by rw [zK7]; rfl,hout.congr (by rw [zK8 (by simp)])⟩
theorem VX.on {io im mid:Nat} {l0:zA4} {acc:List T} {σ:zA6} (h:VX io im mid none acc σ):VX io im mid (some (σ.next,l0)) acc (σ.new (.loop l0)):=by
 obtain ⟨c,v,g1,g2,h,ho,hm,hp,hl,hout⟩:=h
 exact ⟨_,v,g1,g2,h.new .lp (.loop l0),by rw [zK8 (by simp),ho],by rw [zK8 (by simp),hm],by rw [zK8 (by simp),hp],by rw [zK7]; rfl,hout.congr (by rw [zK8 (by simp)])⟩
theorem VX.skip {io im mid:Nat} {L:Option (Nat×zA4)} {acc:List T} {σ:zA6} (h:VX io im mid L acc σ) (o:zA5):VX io im mid L acc (σ.new o):=by
 obtain ⟨c,v,g1,g2,h,k⟩:=h
 exact ⟨c,v,g1,g2,h.skip' o,k⟩
theorem y148x_ok {io im mid yid:Nat} {l:List T} {m:Cap} {i b:Nat}:∀ id args σ Q,YTn yid (VX io im mid (some (yid,zQ6 Tryz.prog io im l m i b))) id args σ Q->zDZ (EV B w0 G) id args σ Q:=by
 rintro id args σ Q ⟨t,acc,⟨rfl,rfl⟩,⟨hb,hS⟩,hQ⟩
 have hob:σ.objs id = .loop (zQ6 Tryz.prog io im l m i b):=by
  obtain ⟨c,v,g1,g2,h,ho,hm,hp,hl,_⟩:=hS
  exact h.obj (r:=.lp) hl
 refine zGM hob rfl (by kernel_rfl) ?_
 have hw:=zTK (B:=B) (w0:=w0) (G:=G) (Q:=Q) rfl rfl hb hS hQ
 refine .pre_wk (a':=frm [(3,.v (.ptr io 0)),(4,.v (.ptr im 0)),(17,.v (.agg (tc t)))] []) (σ':=σ) (zJM (F:=[(3,.v (.ptr io 0)),(4,.v (.ptr im 0)),(17,.v (.agg (tc t)))]) (FL:=[]) (R:=True) ⟨rfl,rfl,rfl,trivial⟩).1 (.refl _) ?_
 refine (zJ4 zQ7 (zKM B w0 G) _ _ _ _ (fun l _ _ Q a σ k=>k.elim) (by kernel_rfl) hw).mono fun e a σ' k => ?_
 cases e with
 | normal =>
  obtain ⟨l1,h1,h2,h3⟩:=k
  show match zGD σ' id with | none=>False | some l=>l.st = .ready/\AWp _ _ _ _ _ a (σ'.set id (.loop { l with st:=.busy }))
  have e1:zGD σ' id=some l1:=by unfold zGD; rw [h1]
  rw [e1]
  refine ⟨h2,(zJ4 zQ7 (zKM B w0 G) _ _ _ _ (fun l _ _ Q a σ k=>k.elim) (by kernel_rfl) h3).mono fun e a2 σ2 k2 => ?_⟩
  cases e with
  | normal =>
   obtain ⟨l2,h4,h5⟩:=k2
   have e2:zGD σ2 id=some l2:=by unfold zGD; rw [h4]
   unfold zGF
   rw [e2]
   exact h5
  | _=>exact k2.elim
 | _=>exact k.elim

theorem zTL {io im:Nat} {l:List T} {m:Cap} (hlen:(nodesTL l).length<=100000) (Q:zDW) (a:zDN) (σ:zA6)
  (h:T148r io im l m (fun y b=>∃ (mid:Nat) (hi:y.i<l.length),b<y.σ.next/\y.σ.objs b = .cells (tc l[y.i]) 37 4 false/\VX io im mid none (nodesTL (l.take y.i)) y.σ) (fun i σ'=>∃ mid,VX io im mid none (nodesTL (l.take (i+1))) σ')
   (.rangeFunc (.tmp 16) #[17] (zPR (zPV Tryz.prog)) (zPS (zPV Tryz.prog))) Q a σ) :
  AWp (EV B w0 G) none (zJ8 Tryz.prog 148) (.rangeFunc (.tmp 16) #[17] (zPR (zPV Tryz.prog)) (zPS (zPV Tryz.prog))) Q a σ:=by
 obtain ⟨y,b,⟨mid,hi,hlt,hbx,hS⟩,hat,hR⟩:=h
 refine .post_wk (.pre_wk (zJM hat).1 (zJM hat).2 ?_)
 refine zGQ (fi:=207) (first:=[]) (cap:=[.ptr b 0]) (own:=148) rfl (by kernel_rfl) trivial ?_
 have hle:=zPM l (y.i+1)
 rw [zPL hi,List.length_append] at hle
 have hob:(y.σ.new (.loop (zQ6 Tryz.prog io im l m y.i b))).objs b = .cells (tc l[y.i]) 37 4 false:=by
  show (if b=y.σ.next then _ else y.σ.objs b)=_
  rw [if_neg (by omega)]; exact hbx
 refine zPQ (y148x_ok (io:=io) (im:=im) (mid:=mid) (yid:=y.σ.next) (l:=l) (m:=m) (i:=y.i) (b:=b)) _ _ _ ⟨b,l[y.i],false,nodesTL (l.take y.i),rfl,⟨hob,by omega,hS.on⟩,fun σ' hS' => ?_⟩
 have hl1:zGD σ' y.σ.next=some (zQ6 Tryz.prog io im l m y.i b):=by
  obtain ⟨c,v,g1,g2,h,ho,hm,hp,hl,_⟩:=hS'
  unfold zGD
  rw [h.obj (r:=.lp) hl]
 unfold zGN
 rw [hl1]
 refine ⟨(by intro e; cases e),_,_,?_,.refl _,hR _ ⟨mid,by rw [zPL hi]; exact hS'.off⟩⟩
 exact (zJM (F:=[(3,.v (.ptr io 0)),(4,.v (.ptr im 0)),(9,.v (.slice 4 (tcellL l) m)),(10,.v (iZ ((tcellL l).length:Int))),(11,.v (iZ (y.i:Int)))]) (FL:=[]) (R:=True) ⟨rfl,rfl,rfl,rfl,rfl,trivial⟩).1

variable (hG:∀ i,zJV (G i))
include hG
theorem zTM (P:Program) (σ:zA6) (l:List Int) (n:Nat):(zP9 l).mapM (deep P σ (n+1))=some (zP9 l):=by
 induction l with
 | nil=>rfl
 | cons x l ih =>
  show List.mapM (deep P σ (n+1)) (iZ x :: zP9 l)=_
  rw [List.mapM_cons,ih]; rfl
theorem c148x_ok:zJD (EV B w0 G) 148 C148x:=by
 rintro args σ Q ⟨l,rfl,hlen,hQ⟩
 refine zDV.pureD 3 hG (Q0:=fun v σ'=>(v = .nilslice/\zS7 l=[])\/∃ ov g,v = .rslice ov 0 (zS7 l).length/\σ'.objs ov = .cells (zP9 (zS7 l)) 3 1 g) (fun v hv => ?_) ?_ (fun v σ' k => ?_)
 ·simp only [List.mem_cons,List.not_mem_nil,or_false] at hv
  subst hv; exact zQI l
 rotate_left
 ·rcases k with ⟨rfl,h1⟩ | ⟨ov,g,rfl,h1⟩
  ·refine ⟨.nilslice,.slice 1 (zP9 (zS7 l)) .any,rfl,?_,zPC _,hQ⟩
   rw [h1]; exact Wk.nil 1
  ·refine ⟨.slice 1 (zP9 (zS7 l)) .nn,.slice 1 (zP9 (zS7 l)) .any,?_,Wk.slice _ _ _,zPC _,hQ⟩
   refine zP5 (n:=2) (off:=0) (len:=(zS7 l).length) h1 kind3 rfl (by omega) (by rw [zPA]; omega) ?_
   rw [Nat.zero_mul,List.drop_zero,Nat.mul_one,<-zPA,List.take_length,zCH _ _ (Nat.le_refl _),List.take_length,zTM hG]
 have hll:=zPO l
 refine zKF (cuts:=[]) (zKM B w0 G) zQ7 (fun lp hl _ Q a' σ kk => ?_) ((vc148 B w0 G l .any (fun io im y=>∃ mid,y.i<=l.length/\VX io im mid none (nodesTL (l.take y.i)) y.σ) (fun io σ'=>∃ im mid,VX io im mid none (nodesTL l) σ') zJZ _).mpr ?_)
 ·change lp∈zKE Tryz.prog [] 148 at hl
  rw [zPU] at hl
  simp only [List.mem_cons,List.not_mem_nil,or_false] at hl
  subst hl
  obtain ⟨io,im,y0,hI0,hat,hR⟩:=kk
  refine zK5 (zPY io im l .any (fun y=>∃ mid,y.i<=l.length/\VX io im mid none (nodesTL (l.take y.i)) y.σ)) (x0:=y0) (fun y hI => ?_) (fun y hI e a' σ hne kk => ?_) hI0 hat
  ·obtain ⟨mid,hi,hS⟩:∃ mid,y.i<=l.length/\VX io im mid none (nodesTL (l.take y.i)) y.σ:=hI
   show AWp _ _ _ _ _ (frm [(3,.v (.ptr io 0)),(4,.v (.ptr im 0)),(9,.v (.slice 4 (tcellL l) .any)),(10,.v (iZ ((tcellL l).length:Int))),(11,.v (iZ (y.i:Int)))] []) y.σ
   refine zKC (cuts:=[]) zQ7 (zKM B w0 G) _ _ _ _ (fun p hp hc Q a σ k => ?_) (by kernel_rfl) ((vc148l B w0 G io im l .any (fun y b=>∃ (mid:Nat) (hi:y.i<l.length),b<y.σ.next/\y.σ.objs b = .cells (tc l[y.i]) 37 4 false/\VX io im mid none (nodesTL (l.take y.i)) y.σ)
    (fun i σ'=>∃ mid,VX io im mid none (nodesTL (l.take (i+1))) σ') _ y).mpr (zE2 (fun h => ?_) (fun h=>⟨fun h2 => ?_,rfl,.refl _⟩)))
   ·have hp:p∈zKI [] (zKG Tryz.prog [] 148 0):=hp
    rw [zPW] at hp
    simp only [List.mem_cons,List.not_mem_nil,or_false] at hp
    subst hp
    exact zTL hlen Q a σ k
   ·have h:=of_decide_eq_true h
    have hk:y.i<l.length:=by rw [zMH] at h; omega
    have w1:IntKind.wrap .i64 ((y.i:Int)+1)=((y.i+1:Nat):Int):=by rw [zN8 (by omega) (by omega)]; omega
    refine ⟨⟨by omega,h⟩,l[y.i],by rw [Int.toNat_natCast]; exact zNA hk,⟨y.σ.new (.cells (tc l[y.i]) 37 4 false),y.i⟩,y.σ.next,⟨mid,hk,Nat.lt_succ_self _,if_pos rfl,hS.skip _⟩,⟨rfl,rfl,rfl,rfl,rfl,rfl,.refl _⟩,
     fun σ' hR'=>⟨⟨σ',y.i+1⟩,⟨?_,?_⟩,rfl,rfl,rfl,rfl,?_,.refl _⟩⟩
    ·obtain ⟨mid',hS'⟩:=hR'
     exact ⟨mid',hk,hS'⟩
    ·show l.length - (y.i+1)<l.length - y.i
     omega
    ·show TV.v (iZ (IntKind.wrap .i64 ((y.i:Int)+1)))=TV.v (iZ ((y.i+1:Nat):Int))
     rw [w1]
   ·have h:=of_decide_eq_false h
    rw [zMH] at h; omega
  ·obtain ⟨mid,hi,hS⟩:∃ mid,y.i<=l.length/\VX io im mid none (nodesTL (l.take y.i)) y.σ:=hI
   cases e with
   | exit j =>
    match j,kk with
    | 0,kk =>
     have hk:¬ y.i<l.length:=kk.1
     rw [show y.i=l.length by omega,List.take_length] at hS
     exact ⟨_,_,(zJM kk.2).1,(zJM kk.2).2,hR _ ⟨im,mid,hS⟩⟩
   | normal=>exact absurd rfl hne
   | _=>exact kk.elim
 ·obtain ⟨c3,h3,o3,p3,m3,q3⟩:∃ c3:zK6 VR,At c3 (((zJZ.new (.cells [.nilslice] 26 1 false)).new (.map [])).new (.cells [.nilmap] 273 1 false))/\c3 .oc=some (zJZ.next,.cells [.nilslice] 26 1 false)/\c3 .mp=some (zJZ.next+1,.map []) /\
    c3 .mc=some (zJZ.next+1+1,.cells [.nilmap] 273 1 false)/\c3 .lp=none:=by
   have h0:At (fun _:VR=>(none:Option (Nat×zA5))) zJZ:=⟨fun r id o h=>(by cases h),fun r s id o o' h=>(by cases h)⟩
   have h1:=h0.new .oc (.cells [.nilslice] 26 1 false)
   have h2:=h1.new .mp (.map [])
   have h3:=h2.new .mc (.cells [.nilmap] 273 1 false)
   exact ⟨_,h3,by rw [zK8 (by simp),zK8 (by simp),zK7],by rw [zK8 (by simp),zK7]; rfl,by rw [zK7]; rfl,by rw [zK8 (by simp),zK8 (by simp),zK8 (by simp)]⟩
  have h4:=h3.set m3 (.cells [.map (zJZ.next+1)] 273 1 false)
  refine ⟨⟨[.nilmap],false⟩,h3.obj m3,Nat.le_refl _,zJZ.next,zJZ.next+1+1,⟨_,0⟩,⟨zJZ.next+1,Nat.zero_le _,_,.nilslice,false,false,h4,by rw [zK8 (by simp),o3],by rw [zK7],by rw [zK8 (by simp),p3]; rfl,by rw [zK8 (by simp),q3]; rfl,.inl ⟨rfl,rfl⟩⟩,
   ⟨rfl,rfl,rfl,rfl,rfl,.refl _⟩,fun σ' hR => ?_⟩
  obtain ⟨im,mid,c,v,g1,g2,h,ho,hm,hp,hl,hout⟩:=hR
  refine ⟨⟨[v],g1⟩,h.obj ho,Nat.zero_lt_one,?_⟩
  rcases hout with ⟨k1,k2⟩ | ⟨ov,g,k1,k5⟩
  ·exact .inl ⟨k1,.inl ⟨rfl,k2⟩⟩
  ·exact .inr ⟨⟨ov,(zS7 l).length⟩,k1,.inr ⟨ov,g,rfl,h.obj k5⟩⟩
end
end Go.V
namespace Go.V
open Go Go.Proofs
variable (B:Nat) (w0:World) (G:Nat->AV)
def C127:zJC:=fun args σ K=>∃ l:List T,args=[slV l]/\(zS5 l=true/\l.length<=1000000)/\K (.tuple [.slice 1 (zP9 (zS7 l)) .any,iZ 0]) σ.untok
theorem vc127 (l:List T) (Q:AV->zA6->Prop):(zKD [] (EV B w0 G) (hnd (EV B w0 G) zHI zMU [(106,C106),(148,C148x)]) nL zHI zMV 127 [slV l] zJZ Q) =
 (∃ l0:List T,[sT l]=[sT l0]/\List.length l0<=1000000/\bcase (((if zS5 l0=Bool.true then 0 else 3):Int) != 0)
 (Q (AV.tuple [AV.nilslice,iZ (if zS5 l0=Bool.true then 0 else 3)]) (Ut zJZ))
 (∃ l1:List T,[sT l]=[sT l1]/\List.length (nodesTL l1)<=100000/\Q (AV.tuple [AV.slice 1 (zP9 (zS7 l1)) Cap.any,iZ 0]) (Ut (Ut zJZ)))):=by kernel_rfl
def C191:zJC:=fun args σ K=>∃ (l:List T) (vars:Int),args=[slV l,iZ vars]/\(zS5 l=true/\l.length<=1000000)/\K (.bool (zS8 l vars)) σ.untok
structure zTN (vs:List Int):Prop where
 eq:vs=(List.range vs.length).map fun i:Nat=>(i:Int)
def zTO (vs:List Int) (vars:Int):LS Nat where
 F i:=[(1,.v (iZ vars)),(5,.v (.slice 1 (zP9 vs) .any)),(14,.v (.slice 1 (zP9 vs) .any)),(15,.v (iZ (vs.length:Int))),(16,.v (iZ (i:Int)))]
 FL _:=[]
 S _:=zJZ
 I i:=i<=vs.length/\zTN (vs.take i)
 μ i:=vs.length - i
 Ex i e a σ:=match e with
  | .exit 0=>zTN vs/\atF a [(1,.v (iZ vars)),(5,.v (.slice 1 (zP9 vs) .any))] [] True
  | .ret=>(¬ zTN vs)/\atF a [(4,.v (.bool false))] [] True
  | _=>False
def zTP:zIB:=zIB.as (fun n:Int => .vptr [iZ n])
def N191:zIE:=hAt [(4,1,zTP)]
theorem zTQ:zKE Tryz.prog [] 191=[.loop (lB 191 0)]:=by kernel_rfl
theorem vc191l (vs:List Int) (vars:Int) (i:Nat):(wpX [] (EV B w0 G) (H0 (EV B w0 G)) nL (zHI 191) N191 (lB 191 0) ((zTO vs vars).post i) (frm ((zTO vs vars).F i) []) zJZ) =
 (bcase (decide ((i:Int)<(List.length vs:Int)))
 (((0:Int)<=(i:Int)/\(i:Int)<(List.length (zP9 vs):Int))/\∃ x0:Int,AV.vptr (AV.cells (List.getD (zP9 vs) (Int.toNat (↑i:Int)) AV.undef))=AV.vptr [iZ x0]/\bcase ((x0:Int) != (i:Int))
 (((zTN vs)->False)/\Rf (TV.v (AV.bool false))/\True)
 (∃ x'1:Nat,((x'1<=List.length vs/\zTN (List.take x'1 vs))/\LS.μ (zTO vs vars) x'1<LS.μ (zTO vs vars) i)/\Rf (TV.v (iZ vars))/\Rf (TV.v (AV.slice 1 (zP9 vs) Cap.any))/\Rf (TV.v (AV.slice 1 (zP9 vs) Cap.any))/\Rf (TV.v (iZ (List.length vs:Int)))/\TV.v (iZ (IntKind.wrap .i64 ((i:Int)+1)))=TV.v (iZ (x'1:Int))/\zA6.Le ((zTO vs vars).3 x'1) zJZ))
 (zTN vs/\Rf (TV.v (iZ vars))/\Rf (TV.v (AV.slice 1 (zP9 vs) Cap.any))/\True)):=by kernel_rfl
def T191 (vs:List Int) (vars:Int):zFV:=fun _ Q a σ=>atF a ((zTO vs vars).F 0) [] (zJZ.Le σ)/\((zTN vs->∀ σ':zA6,Q (.exit 0) (frm [(1,.v (iZ vars)),(5,.v (.slice 1 (zP9 vs) .any))] []) σ')/\(¬ zTN vs->∀ σ':zA6,Q .ret (frm [(4,.v (.bool false))] []) σ'))
theorem vc191 (l:List T) (vars:Int) (Q:AV->zA6->Prop):(zKD [] (EV B w0 G) (hnd (EV B w0 G) zHI zMU [(127,C127)]) (T191 (zS7 l) vars) zHI N191 191 [slV l,iZ vars] zJZ Q) =
 (∃ l0:List T,[sT l]=[sT l0]/\(zS5 l0=true/\List.length l0<=1000000)/\(Rf (TV.v (iZ vars))/\TV.v (AV.slice 1 (zP9 (zS7 l0)) Cap.any)=TV.v (AV.slice 1 (zP9 (zS7 l)) Cap.any)/\TV.v (AV.slice 1 (zP9 (zS7 l0)) Cap.any)=TV.v (AV.slice 1 (zP9 (zS7 l)) Cap.any)/\TV.v (iZ (List.length (zP9 (zS7 l0)):Int))=TV.v (iZ (List.length (zS7 l):Int))/\Rf (TV.v (iZ 0))/\zA6.Le zJZ (Ut zJZ))/\((zTN (zS7 l))->(∀ σ'1:zA6,Q (AV.bool ((List.length (zP9 (zS7 l)):Int)==vars)) σ'1))/\(((zTN (zS7 l))->False)->(∀ σ'1:zA6,Q (AV.bool false) σ'1))):=by kernel_rfl
def C233 (N:Nat):zJC:=fun args σ K=>∃ t:T,args=[.agg (tc t)]/\(t.small/\SizeOf.sizeOf t<N)/\K (.bool (zS4 t)) σ.untok
def C239v (cs:List (AV×AV)):zJC:=fun args σ K=>args=[]/\((∃ es,σ=zJZ.new (.map es))/\K (.map 1) (σ.new (.map cs)))
def H233 (E:Env) (N:Nat) (es cs:List (AV×AV)):zDY:=hnd E zHI zMU [(238,C238 es),(239,C239v cs),(228,C228),(240,C240 N)]
theorem vc239 (es:List (AV×AV)) (Q:AV->zA6->Prop):(zKD [] (EV B w0 G) (H0 (EV B w0 G)) nL zHI zMV 239 [] (zJZ.new (.map es)) Q) =
 (Q (AV.map 1) (zA6.set (zA6.set (zA6.set (zA6.set (zA6.set (zA6.set (zA6.new (zA6.new zJZ (zA5.map es)) (zA5.map [])) 1 (zA5.map [Prod.mk (AV.str ⟨⟨[61,58,61]⟩⟩) (AV.bool true)])) 1 (zA5.map [Prod.mk (AV.str ⟨⟨[61,58,61]⟩⟩) (AV.bool true),Prod.mk (AV.str ⟨⟨[61,92,61]⟩⟩) (AV.bool true)])) 1 (zA5.map [Prod.mk (AV.str ⟨⟨[61,58,61]⟩⟩) (AV.bool true),Prod.mk (AV.str ⟨⟨[61,92,61]⟩⟩) (AV.bool true),Prod.mk (AV.str ⟨⟨[60]⟩⟩) (AV.bool true)])) 1 (zA5.map [Prod.mk (AV.str ⟨⟨[61,58,61]⟩⟩) (AV.bool true),Prod.mk (AV.str ⟨⟨[61,92,61]⟩⟩) (AV.bool true),Prod.mk (AV.str ⟨⟨[60]⟩⟩) (AV.bool true),Prod.mk (AV.str ⟨⟨[61,60]⟩⟩) (AV.bool true)])) 1 (zA5.map [Prod.mk (AV.str ⟨⟨[61,58,61]⟩⟩) (AV.bool true),Prod.mk (AV.str ⟨⟨[61,92,61]⟩⟩) (AV.bool true),Prod.mk (AV.str ⟨⟨[60]⟩⟩) (AV.bool true),Prod.mk (AV.str ⟨⟨[61,60]⟩⟩) (AV.bool true),Prod.mk (AV.str ⟨⟨[62]⟩⟩) (AV.bool true)])) 1 (zA5.map [Prod.mk (AV.str ⟨⟨[61,58,61]⟩⟩) (AV.bool true),Prod.mk (AV.str ⟨⟨[61,92,61]⟩⟩) (AV.bool true),Prod.mk (AV.str ⟨⟨[60]⟩⟩) (AV.bool true),Prod.mk (AV.str ⟨⟨[61,60]⟩⟩) (AV.bool true),Prod.mk (AV.str ⟨⟨[62]⟩⟩) (AV.bool true),Prod.mk (AV.str ⟨⟨[62,61]⟩⟩) (AV.bool true)]))):=by kernel_rfl
def hLookB:zIB:=zIB.ofAs (fun es:List (AV×AV)=>zA5.map es) (fun b:Bool=>AV.bool b)
def N233:zIE:=hAt [(5,3,zRQ),(8,3,hLookB),(8,13,hT),(8,20,hT)]
theorem vc233 (B:Nat) (w0:World) (N:Nat) (es cs:List (AV×AV)) (t:T) (Q:AV->zA6->Prop):(zKD [] (EV B w0 G1) (H233 (EV B w0 G1) N es cs) nL zHI N233 233 [.agg (tc t)] zJZ Q) =
 (∃ t0:T,∃ s1:ByteArray,[AV.agg (tc t),AV.str ⟨⟨[116,114,117,101]⟩⟩]=[AV.agg (tc t0),AV.str s1]/\bcase (isA t0 s1)
 (Q (AV.bool true) (Ut zJZ))
 (bcase (((T.k t):Int) != 5)
 (Q (AV.bool false) (Ut zJZ))
 (([]:List AV)=[]/\Ut zJZ=zJZ/\∃ a2:List (AV×AV),(zA5.map es)=zA5.map a2/\∃ a3:AV,zI9 Tryz.prog 301 a2 (AV.str (T.s t)) true a3/\∃ x4:Int×Bool,a3=AV.tuple [iZ (Prod.fst x4),AV.bool (Prod.snd x4)]/\Rf (TV.l 1 2)/\Rf (TV.v (AV.str (T.s t)))/\bcase (Prod.snd x4)
 (Q (AV.bool ((List.length (tcellL (T.l t)):Int)==(Prod.fst x4))) (zA6.new zJZ (zA5.map es)))
 (([]:List AV)=[]/\(∃ es5:List (AV×AV),(zA6.new zJZ (zA5.map es))=zA6.new zJZ (zA5.map es5))/\∃ a5:List (AV×AV),(zA5.map cs)=zA5.map a5/\∃ a6:AV,zI9 Tryz.prog 308 a5 (AV.str (T.s t)) false a6/\∃ x7:Bool,a6=AV.bool x7/\bcase x7
 (bcase ((List.length (tcellL (T.l t)):Int)==2)
 (((0:Int)<=0/\(0:Int)<(List.length (tcellL (T.l t)):Int))/\∃ x8:T,AV.vptr (AV.cells (List.getD (tcellL (T.l t)) 0 AV.undef))=AV.vptr (tc x8)/\Rf (TV.l 1 2)/\Rf (TV.v (AV.str (T.s t)))/\∃ t9:T,[AV.agg (tc x8)]=[AV.agg (tc t9)]/\(T.small t9/\SizeOf.sizeOf t9<N)/\bcase (zRZ t9)
 (((0:Int)<=1/\(1:Int)<(List.length (tcellL (T.l t)):Int))/\∃ x10:T,AV.vptr (AV.cells (List.getD (tcellL (T.l t)) 1 AV.undef))=AV.vptr (tc x10)/\∃ t11:T,[AV.agg (tc x10)]=[AV.agg (tc t11)]/\(T.small t11/\SizeOf.sizeOf t11<N)/\Q (AV.bool (zRZ t11)) (Ut (Ut (zA6.new (zA6.new zJZ (zA5.map es)) (zA5.map cs)))))
 (Q (AV.bool false) (Ut (zA6.new (zA6.new zJZ (zA5.map es)) (zA5.map cs)))))
 (Rf (TV.l 1 2)/\Rf (TV.v (AV.str (T.s t)))/\Q (AV.bool false) (zA6.new (zA6.new zJZ (zA5.map es)) (zA5.map cs))))
 (Rf (TV.l 1 2)/\Rf (TV.v (AV.str (T.s t)))/\Q (AV.bool false) (zA6.new (zA6.new zJZ (zA5.map es)) (zA5.map cs))))))):=by kernel_rfl
theorem vc232 (N:Nat) (t:T) (Q:AV->zA6->Prop):(zKD [] (EV B w0 G) (hnd (EV B w0 G) zHI zMU [(233,C233 N)]) nL zHI zMV 232 [.agg (tc t)] zJZ Q) =
 (∃ t0:T,[AV.agg (tc t)]=[AV.agg (tc t0)]/\(T.small t0/\SizeOf.sizeOf t0<N)/\Q (AV.bool (!(zS4 t0))) (Ut zJZ)):=by kernel_rfl
end Go.V
