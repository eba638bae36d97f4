/- A part of the proof of the statement S8 (texts brought together and shortened by a program of this work). -/
import Derived.Test.YtgnjidopnplbbaaGreatDoorQ11
set_option maxRecDepth 1000000
set_option linter.unusedVariables false
namespace Go.V
open Go Go.Proofs

def zMS (s:ByteArray):Nat->Nat->Int
 | 0,_ => -1
 | n+1,pos=>if pos<s.size then (if ((Utf8.decode s pos).1:Int)<32\/((Utf8.decode s pos).1:Int) > 126 then pos else zMS s n (pos+(Utf8.decode s pos).2)) else -1
def bad (s:ByteArray):Int:=zMS s (s.size+1) 0
def zMT (s:ByteArray):Bool:=(decide ((s.size:Int) ≥ 1)&&decide ((s.size:Int)<=32))&&decide (bad s<0)

def zMU:Nat->zIE:=fun _ _ _=>zIB.no
def H0 (E:Env):zDY:=hnd E zHI zMU []
def zMV:zIE:=fun _ _=>zIB.no
def symAt (l:List (Nat×Nat)):zIE:=fun id i=>match l.any (fun x=>Nat.beq x.1 id&&Nat.beq x.2 i) with
 | true=>zIB.s
 | false=>zIB.no

def F209:List (Nat×TV):=[(1,.v (.func (.func 184) [] [])),(2,.v (.bool true)),(10,.v (.ptr 0 0))]
theorem zMW:zJ7 Tryz.prog 209=[.loop (zJU Tryz.prog 209 0)]:=by kernel_rfl
def I209 (s:ByteArray) (pos:Nat):Prop:=∃ n,s.size - pos<n/\bad s=zMS s n pos
def X209 (s:ByteArray):Exit->zDN->zA6->Prop
 | .exit 0,a,σ=>bad s = -1/\zJQ a σ [] [] [] 1
 | .ret,a,σ=>bad s ≠ -1/\zJQ a σ [(6,.v (iZ (bad s)))] [] [] 1
 | _,_,_=>False
def zMX (s:ByteArray):LI Nat:=⟨fun _=>F209,fun _=>[],fun p=>[.siter s p],fun _=>1,I209 s,fun p=>s.size - p,fun _=>X209 s⟩
theorem vc209l (B:Nat) (w0:World) (G:Nat->AV) (s:ByteArray) (pos:Nat):(wpC (EV B w0 G) (H0 (EV B w0 G)) (fun _ _ _ _=>False) (zHI 209) (symAt [(2,0)]) (zJU Tryz.prog 209 0) ((zMX s).post pos) (frm ((zMX s).F pos) ((zMX s).FL pos)) (lst ((zMX s).L pos) ((zMX s).m pos))) =
 (bcase (decide (pos<ByteArray.size s))
 (bcase (decide ((↑((Utf8.decode s pos).1):Int)<32))
 (((bad s=(-1))->False)/\
 (TV.v (iZ (↑pos:Int)))=TV.v (iZ (bad s))/\
 1=1/\
 True)
 (bcase (decide ((↑((Utf8.decode s pos).1):Int) > 126)==Bool.true)
 (((bad s=(-1))->False)/\
 (TV.v (iZ (↑pos:Int)))=TV.v (iZ (bad s))/\
 1=1/\
 True)
 (∃ x'0:Nat,((∃ n1:Nat,ByteArray.size s - x'0<n1/\
 (bad s)=zMS s n1 x'0)/\
 LI.μ (zMX s) x'0<LI.μ (zMX s) pos)/\
 Rf (TV.v (AV.func (Go.Fn.func 184) [] []))/\
 Rf (TV.v (AV.bool true))/\
 Rf (TV.v (AV.ptr 0 0))/\
 1=1/\
 (zA5.siter s (pos+(Utf8.decode s pos).2))=zA5.siter s x'0/\
 True)))
 (bad s=(-1)/\
 1=1/\
 True)):=by kernel_rfl
def L209 (s:ByteArray):zFV:=fun _ Q a σ=>zJQ a σ F209 [] [.siter s 0] 1/\((bad s = -1->Q (.exit 0) (frm [] []) (lst [] 1))/\(bad s ≠ -1->Q .ret (frm [(6,.v (iZ (bad s)))] []) (lst [] 1)))
theorem vc209 (B:Nat) (w0:World) (G:Nat->AV) (s:ByteArray) (Q:AV->zA6->Prop):(zJ6 (EV B w0 G) (H0 (EV B w0 G)) (L209 s) zHI zMV 209 [.str s,.func (.func 184) [] [],.bool true] zJZ Q) =
 ((Rf (TV.v (AV.func (Go.Fn.func 184) [] []))/\
 Rf (TV.v (AV.bool true))/\
 Rf (TV.v (AV.ptr 0 0))/\
 1=1/\
 Rf (zA5.siter s 0)/\
 True)/\
 ((bad s=(-1))->(Q (iZ (-1)) (lst [] 1)))/\
 (((bad s=(-1))->False)->(Q (iZ (bad s)) (lst [] 1)))):=by kernel_rfl
def C209:zJC:=fun args σ K=>∃ s,args=[.str s,.func (.func 184) [] [],.bool true]/\K (iZ (bad s)) σ.untok
def H154 (E:Env):zDY:=hnd E zHI zMU [(209,C209)]
theorem vc154 (B:Nat) (w0:World) (G:Nat->AV) (s:ByteArray) (Q:AV->zA6->Prop):(zJ6 (EV B w0 G) (H154 (EV B w0 G)) (fun _ _ _ _=>False) zHI zMV 154 [.str s] zJZ Q) =
 (bcase (decide ((↑(ByteArray.size s):Int) ≥ 1))
 (bcase (decide ((↑(ByteArray.size s):Int)<=32))
 (∃ s0:ByteArray,[AV.str s,AV.func (Go.Fn.func 184) [] [],AV.bool true]=[AV.str s0,AV.func (Go.Fn.func 184) [] [],AV.bool true]/\
 Q (AV.bool (decide (bad s0<0))) (Ut zJZ))
 (Q (AV.bool false) zJZ))
 (Q (AV.bool false) zJZ)):=by kernel_rfl
end Go.V
set_option linter.unusedSimpArgs false
namespace Go.V
open Go Go.Proofs

theorem zMY (s:ByteArray) (pos:Nat):1<=(Utf8.decode s pos).2:=by
 unfold Utf8.decode
 dsimp only
 repeat' split
 all_goals (simp only; try omega)

section
variable {B:Nat} {w0:World} {G:Nat->AV}
theorem zMZ:zIP (EV B w0 G) (H0 (EV B w0 G)):=zJJ (zKM B w0 G) zJH

theorem zN0 {E:Env} {H:zDY} (hm:E.P.follows .mixedOrders=true) (hH:zIP E H) {n:Nat} {an:zDM} {hs:zIE} {c:Code} {Q:zDW} {a:zDN} {σ:zA6} (hl:zIO c=[]) (hc:zFX n an c=true)
  (h:wpC E H (fun _ _ _ _=>False) an hs c Q a σ):AWp E none n c Q a σ :=
 zJ4 hH hm c Q a σ (fun l hl'=>by rw [hl] at hl'; cases hl') hc h

theorem loop209 (s:ByteArray) (Q:zDW) (a:zDN) (σ:zA6) (h:L209 s (.loop (zJU Tryz.prog 209 0)) Q a σ):AWp (EV B w0 G) none (zJ8 Tryz.prog 209) (.loop (zJU Tryz.prog 209 0)) Q a σ:=by
 refine zJS (zMX s) (x0:=0) (fun pos hI=>zN0 (zKM B w0 G) zMZ (by kernel_rfl) (by kernel_rfl) ((vc209l B w0 G s pos).mpr ?_)) (fun x hI e a σ hne k => ?_) ⟨s.size+1,by omega,rfl⟩ h.1
 ·obtain ⟨n,hn,hb⟩:=hI
  obtain ⟨n,rfl⟩:∃ k,n=k+1:=⟨n - 1,by omega⟩
  unfold zMS at hb
  refine zE2 (fun h1 => ?_) (fun h1 => ?_)
  ·have h1:pos<s.size:=by simpa using h1
   rw [if_pos h1] at hb
   refine zE2 (fun h2 => ?_) (fun h2=>zE2 (fun h3 => ?_) (fun h3 => ?_))
   ·have h2:((Utf8.decode s pos).1:Int)<32:=by simpa using h2
    rw [if_pos (.inl h2)] at hb
    exact ⟨fun e=>by omega,by rw [hb],rfl,trivial⟩
   ·have h3:((Utf8.decode s pos).1:Int) > 126:=by simpa using h3
    rw [if_pos (.inr h3)] at hb
    exact ⟨fun e=>by omega,by rw [hb],rfl,trivial⟩
   ·have h2:¬ ((Utf8.decode s pos).1:Int)<32:=by simpa using h2
    have h3:¬ ((Utf8.decode s pos).1:Int) > 126:=by simpa using h3
    rw [if_neg (by omega)] at hb
    have:=zMY s pos
    exact ⟨pos+(Utf8.decode s pos).2,⟨⟨n,by omega,hb⟩,show s.size - (pos+(Utf8.decode s pos).2)<s.size - pos by omega⟩,rfl,rfl,rfl,rfl,rfl,trivial⟩
  ·have h1:¬ pos<s.size:=by simpa using h1
   rw [if_neg h1] at hb
   exact ⟨hb,rfl,trivial⟩
 ·cases e with
  | exit id =>
   cases id with
   | zero=>exact zJT k.2 (h.2.1 k.1)
   | succ id=>exact k.elim
  | ret=>exact zJT k.2 (h.2.2 k.1)
  | normal=>exact absurd rfl hne
  | _=>exact k.elim

theorem zN1 {E:Env} {f:Nat} {args:List AV} {v:AV} {Q:AV->zA6->Prop} {σ:zA6} (hG:∀ i,zJV (E.G i)) (ha:∀ x∈args,zJV x) (hv:zJV v) (h:∀ Q:AV->zA6->Prop,(∀ σ',Q v σ')->zDV E f args zJZ Q) (hQ:Q v σ.untok):zDV E f args σ Q :=
 .pure hG ha (h (fun u _=>u=v) fun _=>rfl) fun u σ' k=>⟨v,by rw [k]; exact .refl v,hv,hQ⟩

variable (hG:∀ i,zJV (G i))
include hG
theorem c209_ok:zJD (EV B w0 G) 209 C209:=by
 rintro args σ Q ⟨s,rfl,hQ⟩
 refine zN1 hG (noIdL_ok [.str s,.func (.func 184) [] [],.bool true] rfl).1 (.int _ _) (fun Q hQ => ?_) hQ
 refine zJ9 (zKM B w0 G) zMZ (fun l hl _ Q a σ k => ?_) ((vc209 B w0 G s Q).mpr ⟨⟨rfl,rfl,rfl,rfl,rfl,trivial⟩,fun e=>by rw [<-e]; exact hQ _,fun e=>hQ _⟩)
 change l∈zJ7 Tryz.prog 209 at hl
 rw [zMW] at hl
 simp only [List.mem_cons,List.not_mem_nil,or_false] at hl
 subst hl
 exact loop209 s Q a σ k

theorem H154_ok:zIP (EV B w0 G) (H154 (EV B w0 G)):=zJJ (zKM B w0 G) (zJI (c209_ok hG) zJH)

theorem c154_ok {s:ByteArray} {σ:zA6} {Q:AV->zA6->Prop} (hQ:Q (.bool (zMT s)) σ.untok):zDV (EV B w0 G) 154 [.str s] σ Q:=by
 refine zN1 hG (noIdL_ok [.str s] rfl).1 (.bool _) (fun Q hQ => ?_) hQ
 refine zJ9 (zKM B w0 G) (H154_ok hG) (fun l hl _ Q a σ k => ?_) ((vc154 B w0 G s Q).mpr ?_)
 ·change l∈zJ7 Tryz.prog 154 at hl
  rw [show zJ7 Tryz.prog 154=[] by kernel_rfl] at hl
  cases hl
 ·unfold zMT at hQ
  refine zE2 (fun h1=>zE2 (fun h2=>⟨s,rfl,?_⟩) (fun h2 => ?_)) (fun h1 => ?_)
  ·rw [h1,h2] at hQ; exact hQ _
  ·rw [h1,h2] at hQ; exact hQ _
  ·rw [h1] at hQ; exact hQ _
end
end Go.V
namespace Go.V
open Go Go.Proofs

def wr (n:Int):Int:=IntKind.wrap .i64 n

def zN2 (t:T):Bool :=
 if t.k=1 then zAI t.s ⟨⟨[]⟩⟩&&(decide ((t.l.length:Int)=0)&&(decide (t.n ≥ 0)&&decide (t.n<100000)))
 else if t.k=2 then zAI t.s ⟨⟨[]⟩⟩&&(decide ((t.l.length:Int)=0)&&(decide (t.n ≥ -2147483647)&&decide (t.n<=2147483647)))
 else if t.k=3 then decide (t.n=0)&&(decide ((t.l.length:Int)=0)&&zMT t.s)
 else if t.k=4 then decide (t.n=0)&&(decide ((t.l.length:Int)=0)&&decide ((t.s.size:Int)<=255))
 else if t.k=5 then decide (t.n=0)&&(zMT t.s&&(decide ((t.l.length:Int) ≥ 1)&&decide ((t.l.length:Int)<=16)))
 else if t.k=6 then decide (t.n=0)&&(zAI t.s ⟨⟨[]⟩⟩&&decide ((t.l.length:Int)<=64))
 else false

def zN3 (t:T) (left deep:Int):Bool:=!decide (deep<1)&&(!decide (left<1)&&zN2 t)

mutual
def zN4:T->Int->Int->Int
 | .mk k n s l,left,deep=>if zN3 (.mk k n s l) left deep=true then countL l 1 left deep else wr (left+1)
def countL:List T->Int->Int->Int->Int
 | [],n,_,_=>n
 | x :: l,n,left,deep=>if wr (n+zN4 x (wr (left - n)) (wr (deep - 1))) > left then wr (left+1) else countL l (wr (n+zN4 x (wr (left - n)) (wr (deep - 1)))) left deep
end

def C154:zJC:=fun args σ K=>∃ s,args=[.str s]/\K (.bool (zMT s)) σ.untok
def C130 (N:Nat):zJC:=fun args σ K=>∃ (t:T) (left deep:Int),args=[.agg (tc t),iZ left,iZ deep,zMM]/\SizeOf.sizeOf t<N/\K (iZ (zN4 t left deep)) σ.untok
def H130 (E:Env) (N:Nat):zDY:=hnd E zHI zMU [(154,C154),(130,C130 N)]
def N130:zIE:=fun id i=>match Nat.beq id 6&&Nat.beq i 0 with
 | true=>zIB.as (fun t:T => .vptr (tc t))
 | false=>symAt [(1,19),(1,20)] id i

def zN5 (t:T) (left deep:Int):LI (Nat×Int) where
 F x:=[(1,.v (iZ left)),(2,.v (iZ deep)),(7,.l 7 0),(9,.v (iZ x.2)),(40,.v (.slice 4 (tcellL t.l) .any)),(41,.v (iZ (tcellL t.l).length)),(42,.v (iZ x.1))]
 FL _:=[(7,zMM.cells)]
 L _:=[]
 m _:=0
 I x:=x.1<=t.l.length/\t.l.length<=64/\countL t.l 1 left deep=countL (t.l.drop x.1) x.2 left deep
 μ x:=t.l.length - x.1
 Ex _ e a σ:=match e with
  | .exit 0=>zJQ a σ [(9,.v (iZ (countL t.l 1 left deep)))] [] [] 0
  | .ret=>zJQ a σ [(8,.v (iZ (countL t.l 1 left deep)))] [] [] 0
  | _=>False
theorem zN6:zJ7 Tryz.prog 130=[.loop (zJU Tryz.prog 130 0)]:=by kernel_rfl
theorem vc130l (B:Nat) (w0:World) (G:Nat->AV) (N:Nat) (t:T) (left deep:Int) (i:Nat) (n:Int):(wpC (EV B w0 G) (H130 (EV B w0 G) N) (fun _ _ _ _=>False) (zHI 130) N130 (zJU Tryz.prog 130 0) ((zN5 t left deep).post (i,n)) (frm ((zN5 t left deep).F (i,n)) ((zN5 t left deep).FL (i,n))) (lst ((zN5 t left deep).L (i,n)) ((zN5 t left deep).m (i,n)))) =
 (bcase (decide ((↑(Prod.fst (i,n)):Int)<(↑(List.length (tcellL (T.l t))):Int)))
 ((0<=(↑(Prod.fst (i,n)):Int)/\
 (↑(Prod.fst (i,n)):Int)<(↑(List.length (tcellL (T.l t))):Int))/\
 ∃ x0:T,AV.vptr (AV.cells (List.getD (tcellL (T.l t)) (Int.toNat (↑(Prod.fst (i,n)):Int)) AV.undef))=AV.vptr (tc x0)/\
 ∃ t1:T,∃ left2:Int,∃ deep3:Int,[AV.agg (tc x0),iZ (IntKind.wrap .i64 (left - Prod.snd (i,n))),iZ (IntKind.wrap .i64 (deep - 1)),AV.agg [AV.nilfunc,AV.func (Go.Fn.func 151) [] [AV.vptr [AV.func (Go.Fn.func 150) [] []]],AV.func (Go.Fn.func 152) [] [AV.vptr [AV.func (Go.Fn.func 150) [] []]],AV.func (Go.Fn.func 153) [] [AV.vptr [AV.func (Go.Fn.func 150) [] []]],AV.func (Go.Fn.func 155) [] [AV.vptr [AV.func (Go.Fn.func 150) [] []]],AV.func (Go.Fn.func 156) [] [AV.vptr [AV.func (Go.Fn.func 150) [] []]],AV.func (Go.Fn.func 157) [] [AV.vptr [AV.func (Go.Fn.func 150) [] []]]]]=[AV.agg (tc t1),iZ left2,iZ deep3,AV.agg [AV.nilfunc,AV.func (Go.Fn.func 151) [] [AV.vptr [AV.func (Go.Fn.func 150) [] []]],AV.func (Go.Fn.func 152) [] [AV.vptr [AV.func (Go.Fn.func 150) [] []]],AV.func (Go.Fn.func 153) [] [AV.vptr [AV.func (Go.Fn.func 150) [] []]],AV.func (Go.Fn.func 155) [] [AV.vptr [AV.func (Go.Fn.func 150) [] []]],AV.func (Go.Fn.func 156) [] [AV.vptr [AV.func (Go.Fn.func 150) [] []]],AV.func (Go.Fn.func 157) [] [AV.vptr [AV.func (Go.Fn.func 150) [] []]]]]/\
 SizeOf.sizeOf t1<N/\
 bcase (decide (IntKind.wrap .i64 (Prod.snd (i,n)+zN4 t1 left2 deep3) > left))
 (TV.v (iZ (IntKind.wrap .i64 (left+1)))=TV.v (iZ (countL (T.l t) 1 left deep))/\
 0=0/\
 True)
 (∃ x'4:Nat×Int,((Prod.fst x'4<=List.length (T.l t)/\
 List.length (T.l t)<=64/\
 (countL (T.l t) 1 left deep)=countL (List.drop (Prod.fst x'4) (T.l t)) (Prod.snd x'4) left deep)/\
 LI.μ (zN5 t left deep) x'4<LI.μ (zN5 t left deep) (i,n))/\
 Rf (TV.v (iZ left))/\
 Rf (TV.v (iZ deep))/\
 Rf (TV.l 7 0)/\
 (TV.v (iZ (IntKind.wrap .i64 (Prod.snd (i,n)+zN4 t1 left2 deep3))))=TV.v (iZ (Prod.snd x'4))/\
 Rf (TV.v (sT (T.l t)))/\
 Rf (TV.v (iZ (↑(List.length (tcellL (T.l t))):Int)))/\
 (TV.v (iZ (IntKind.wrap .i64 ((↑(Prod.fst (i,n)):Int)+1))))=TV.v (iZ (↑(Prod.fst x'4):Int))/\
 Rf [AV.nilfunc,AV.func (Go.Fn.func 151) [] [AV.vptr [AV.func (Go.Fn.func 150) [] []]],AV.func (Go.Fn.func 152) [] [AV.vptr [AV.func (Go.Fn.func 150) [] []]],AV.func (Go.Fn.func 153) [] [AV.vptr [AV.func (Go.Fn.func 150) [] []]],AV.func (Go.Fn.func 155) [] [AV.vptr [AV.func (Go.Fn.func 150) [] []]],AV.func (Go.Fn.func 156) [] [AV.vptr [AV.func (Go.Fn.func 150) [] []]],AV.func (Go.Fn.func 157) [] [AV.vptr [AV.func (Go.Fn.func 150) [] []]]]/\
 0=0/\
 True))
 (TV.v (iZ (Prod.snd (i,n)))=TV.v (iZ (countL (T.l t) 1 left deep))/\
 0=0/\
 True)):=by kernel_rfl
def L130 (t:T) (left deep:Int):zFV:=fun _ Q a σ=>(zN5 t left deep).I (0,1)/\zJQ a σ ((zN5 t left deep).F (0,1)) ((zN5 t left deep).FL (0,1)) [] 0 /\
 (Q (.exit 0) (frm [(9,.v (iZ (countL t.l 1 left deep)))] []) (lst [] 0)/\Q .ret (frm [(8,.v (iZ (countL t.l 1 left deep)))] []) (lst [] 0))
theorem vc130 (B:Nat) (w0:World) (G:Nat->AV) (N:Nat) (t:T) (left deep:Int) (Q:AV->zA6->Prop):(zJ6 (EV B w0 G) (H130 (EV B w0 G) N) (L130 t left deep) zHI N130 130 [.agg (tc t),iZ left,iZ deep,zMM] zJZ Q) =
 (bcase (decide (deep<1))
 (Q (iZ (IntKind.wrap .i64 (left+1))) zJZ)
 (bcase (decide (left<1))
 (Q (iZ (IntKind.wrap .i64 (left+1))) zJZ)
 (bcase (decide (T.k t<1))
 (Q (iZ (IntKind.wrap .i64 (left+1))) zJZ)
 (bcase (decide (T.k t > 6))
 (Q (iZ (IntKind.wrap .i64 (left+1))) zJZ)
 (0<=T.k t/\
 T.k t<(↑7:Int)/\
 bcase (decide (0+Int.toNat (T.k t)*1=0))
 False
 (bcase (decide (0+Int.toNat (T.k t)*1=1))
 (bcase (zAI (T.s t) { data:=#[] })
 (bcase ((↑(List.length (tcellL (T.l t))):Int)==0)
 (bcase (decide (T.n t ≥ 0))
 (bcase (!decide (T.n t<100000))
 (Q (iZ (IntKind.wrap .i64 (left+1))) zJZ)
 ((0<=List.length (T.l t)/\
 List.length (T.l t)<=64/\
 (countL (T.l t) 1 left deep)=countL (List.drop 0 (T.l t)) (Prod.snd (0,1)) left deep)/\
 (Rf (TV.v (iZ left))/\
 Rf (TV.v (iZ deep))/\
 Rf (TV.l 7 0)/\
 Rf (TV.v (iZ 1))/\
 Rf (TV.v (sT (T.l t)))/\
 Rf (TV.v (iZ (↑(List.length (tcellL (T.l t))):Int)))/\
 Rf (TV.v (iZ 0))/\
 Rf [AV.nilfunc,AV.func (Go.Fn.func 151) [] [AV.vptr [AV.func (Go.Fn.func 150) [] []]],AV.func (Go.Fn.func 152) [] [AV.vptr [AV.func (Go.Fn.func 150) [] []]],AV.func (Go.Fn.func 153) [] [AV.vptr [AV.func (Go.Fn.func 150) [] []]],AV.func (Go.Fn.func 155) [] [AV.vptr [AV.func (Go.Fn.func 150) [] []]],AV.func (Go.Fn.func 156) [] [AV.vptr [AV.func (Go.Fn.func 150) [] []]],AV.func (Go.Fn.func 157) [] [AV.vptr [AV.func (Go.Fn.func 150) [] []]]]/\
 0=0/\
 True)/\
 Q (iZ (countL (T.l t) 1 left deep)) (lst [] 0)/\
 Q (iZ (countL (T.l t) 1 left deep)) (lst [] 0)))
 (Q (iZ (IntKind.wrap .i64 (left+1))) zJZ))
 (Q (iZ (IntKind.wrap .i64 (left+1))) zJZ))
 (Q (iZ (IntKind.wrap .i64 (left+1))) zJZ))
 (bcase (decide (0+Int.toNat (T.k t)*1=2))
 (bcase (zAI (T.s t) { data:=#[] })
 (bcase ((↑(List.length (tcellL (T.l t))):Int)==0)
 (bcase (decide (T.n t ≥ -2147483647))
 (bcase (!decide (T.n t<=2147483647))
 (Q (iZ (IntKind.wrap .i64 (left+1))) zJZ)
 ((0<=List.length (T.l t)/\
 List.length (T.l t)<=64/\
 (countL (T.l t) 1 left deep)=countL (List.drop 0 (T.l t)) (Prod.snd (0,1)) left deep)/\
 (Rf (TV.v (iZ left))/\
 Rf (TV.v (iZ deep))/\
 Rf (TV.l 7 0)/\
 Rf (TV.v (iZ 1))/\
 Rf (TV.v (sT (T.l t)))/\
 Rf (TV.v (iZ (↑(List.length (tcellL (T.l t))):Int)))/\
 Rf (TV.v (iZ 0))/\
 Rf [AV.nilfunc,AV.func (Go.Fn.func 151) [] [AV.vptr [AV.func (Go.Fn.func 150) [] []]],AV.func (Go.Fn.func 152) [] [AV.vptr [AV.func (Go.Fn.func 150) [] []]],AV.func (Go.Fn.func 153) [] [AV.vptr [AV.func (Go.Fn.func 150) [] []]],AV.func (Go.Fn.func 155) [] [AV.vptr [AV.func (Go.Fn.func 150) [] []]],AV.func (Go.Fn.func 156) [] [AV.vptr [AV.func (Go.Fn.func 150) [] []]],AV.func (Go.Fn.func 157) [] [AV.vptr [AV.func (Go.Fn.func 150) [] []]]]/\
 0=0/\
 True)/\
 Q (iZ (countL (T.l t) 1 left deep)) (lst [] 0)/\
 Q (iZ (countL (T.l t) 1 left deep)) (lst [] 0)))
 (Q (iZ (IntKind.wrap .i64 (left+1))) zJZ))
 (Q (iZ (IntKind.wrap .i64 (left+1))) zJZ))
 (Q (iZ (IntKind.wrap .i64 (left+1))) zJZ))
 (bcase (decide (0+Int.toNat (T.k t)*1=3))
 (bcase (T.n t==0)
 (bcase ((↑(List.length (tcellL (T.l t))):Int)==0)
 (∃ s0:ByteArray,[AV.str (T.s t)]=[AV.str s0]/\
 bcase (!zMT s0)
 (Q (iZ (IntKind.wrap .i64 (left+1))) (Ut zJZ))
 ((0<=List.length (T.l t)/\
 List.length (T.l t)<=64/\
 (countL (T.l t) 1 left deep)=countL (List.drop 0 (T.l t)) (Prod.snd (0,1)) left deep)/\
 (Rf (TV.v (iZ left))/\
 Rf (TV.v (iZ deep))/\
 Rf (TV.l 7 0)/\
 Rf (TV.v (iZ 1))/\
 Rf (TV.v (sT (T.l t)))/\
 Rf (TV.v (iZ (↑(List.length (tcellL (T.l t))):Int)))/\
 Rf (TV.v (iZ 0))/\
 Rf [AV.nilfunc,AV.func (Go.Fn.func 151) [] [AV.vptr [AV.func (Go.Fn.func 150) [] []]],AV.func (Go.Fn.func 152) [] [AV.vptr [AV.func (Go.Fn.func 150) [] []]],AV.func (Go.Fn.func 153) [] [AV.vptr [AV.func (Go.Fn.func 150) [] []]],AV.func (Go.Fn.func 155) [] [AV.vptr [AV.func (Go.Fn.func 150) [] []]],AV.func (Go.Fn.func 156) [] [AV.vptr [AV.func (Go.Fn.func 150) [] []]],AV.func (Go.Fn.func 157) [] [AV.vptr [AV.func (Go.Fn.func 150) [] []]]]/\
 0=0/\
 True)/\
 Q (iZ (countL (T.l t) 1 left deep)) (lst [] 0)/\
 Q (iZ (countL (T.l t) 1 left deep)) (lst [] 0)))
 (Q (iZ (IntKind.wrap .i64 (left+1))) zJZ))
 (Q (iZ (IntKind.wrap .i64 (left+1))) zJZ))
 (bcase (decide (0+Int.toNat (T.k t)*1=4))
 (bcase (T.n t==0)
 (bcase ((↑(List.length (tcellL (T.l t))):Int)==0)
 (bcase (!decide ((↑(ByteArray.size (T.s t)):Int)<=255))
 (Q (iZ (IntKind.wrap .i64 (left+1))) zJZ)
 ((0<=List.length (T.l t)/\
 List.length (T.l t)<=64/\
 (countL (T.l t) 1 left deep)=countL (List.drop 0 (T.l t)) (Prod.snd (0,1)) left deep)/\
 (Rf (TV.v (iZ left))/\
 Rf (TV.v (iZ deep))/\
 Rf (TV.l 7 0)/\
 Rf (TV.v (iZ 1))/\
 Rf (TV.v (sT (T.l t)))/\
 Rf (TV.v (iZ (↑(List.length (tcellL (T.l t))):Int)))/\
 Rf (TV.v (iZ 0))/\
 Rf [AV.nilfunc,AV.func (Go.Fn.func 151) [] [AV.vptr [AV.func (Go.Fn.func 150) [] []]],AV.func (Go.Fn.func 152) [] [AV.vptr [AV.func (Go.Fn.func 150) [] []]],AV.func (Go.Fn.func 153) [] [AV.vptr [AV.func (Go.Fn.func 150) [] []]],AV.func (Go.Fn.func 155) [] [AV.vptr [AV.func (Go.Fn.func 150) [] []]],AV.func (Go.Fn.func 156) [] [AV.vptr [AV.func (Go.Fn.func 150) [] []]],AV.func (Go.Fn.func 157) [] [AV.vptr [AV.func (Go.Fn.func 150) [] []]]]/\
 0=0/\
 True)/\
 Q (iZ (countL (T.l t) 1 left deep)) (lst [] 0)/\
 Q (iZ (countL (T.l t) 1 left deep)) (lst [] 0)))
 (Q (iZ (IntKind.wrap .i64 (left+1))) zJZ))
 (Q (iZ (IntKind.wrap .i64 (left+1))) zJZ))
 (bcase (decide (0+Int.toNat (T.k t)*1=5))
 (bcase (T.n t==0)
 (∃ s0:ByteArray,[AV.str (T.s t)]=[AV.str s0]/\
 bcase (zMT s0)
 (bcase (decide ((↑(List.length (tcellL (T.l t))):Int) ≥ 1))
 (bcase (!decide ((↑(List.length (tcellL (T.l t))):Int)<=16))
 (Q (iZ (IntKind.wrap .i64 (left+1))) (Ut zJZ))
 ((0<=List.length (T.l t)/\
 List.length (T.l t)<=64/\
 (countL (T.l t) 1 left deep)=countL (List.drop 0 (T.l t)) (Prod.snd (0,1)) left deep)/\
 (Rf (TV.v (iZ left))/\
 Rf (TV.v (iZ deep))/\
 Rf (TV.l 7 0)/\
 Rf (TV.v (iZ 1))/\
 Rf (TV.v (sT (T.l t)))/\
 Rf (TV.v (iZ (↑(List.length (tcellL (T.l t))):Int)))/\
 Rf (TV.v (iZ 0))/\
 Rf [AV.nilfunc,AV.func (Go.Fn.func 151) [] [AV.vptr [AV.func (Go.Fn.func 150) [] []]],AV.func (Go.Fn.func 152) [] [AV.vptr [AV.func (Go.Fn.func 150) [] []]],AV.func (Go.Fn.func 153) [] [AV.vptr [AV.func (Go.Fn.func 150) [] []]],AV.func (Go.Fn.func 155) [] [AV.vptr [AV.func (Go.Fn.func 150) [] []]],AV.func (Go.Fn.func 156) [] [AV.vptr [AV.func (Go.Fn.func 150) [] []]],AV.func (Go.Fn.func 157) [] [AV.vptr [AV.func (Go.Fn.func 150) [] []]]]/\
 0=0/\
 True)/\
 Q (iZ (countL (T.l t) 1 left deep)) (lst [] 0)/\
 Q (iZ (countL (T.l t) 1 left deep)) (lst [] 0)))
 (Q (iZ (IntKind.wrap .i64 (left+1))) (Ut zJZ)))
 (Q (iZ (IntKind.wrap .i64 (left+1))) (Ut zJZ)))
 (Q (iZ (IntKind.wrap .i64 (left+1))) zJZ))
 (bcase (decide (0+Int.toNat (T.k t)*1=6))
 (bcase (T.n t==0)
 (bcase (zAI (T.s t) { data:=#[] })
 (bcase (!decide ((↑(List.length (tcellL (T.l t))):Int)<=64))
 (Q (iZ (IntKind.wrap .i64 (left+1))) zJZ)
 ((0<=List.length (T.l t)/\
 List.length (T.l t)<=64/\
 (countL (T.l t) 1 left deep)=countL (List.drop 0 (T.l t)) (Prod.snd (0,1)) left deep)/\
 (Rf (TV.v (iZ left))/\
 Rf (TV.v (iZ deep))/\
 Rf (TV.l 7 0)/\
 Rf (TV.v (iZ 1))/\
 Rf (TV.v (sT (T.l t)))/\
 Rf (TV.v (iZ (↑(List.length (tcellL (T.l t))):Int)))/\
 Rf (TV.v (iZ 0))/\
 Rf [AV.nilfunc,AV.func (Go.Fn.func 151) [] [AV.vptr [AV.func (Go.Fn.func 150) [] []]],AV.func (Go.Fn.func 152) [] [AV.vptr [AV.func (Go.Fn.func 150) [] []]],AV.func (Go.Fn.func 153) [] [AV.vptr [AV.func (Go.Fn.func 150) [] []]],AV.func (Go.Fn.func 155) [] [AV.vptr [AV.func (Go.Fn.func 150) [] []]],AV.func (Go.Fn.func 156) [] [AV.vptr [AV.func (Go.Fn.func 150) [] []]],AV.func (Go.Fn.func 157) [] [AV.vptr [AV.func (Go.Fn.func 150) [] []]]]/\
 0=0/\
 True)/\
 Q (iZ (countL (T.l t) 1 left deep)) (lst [] 0)/\
 Q (iZ (countL (T.l t) 1 left deep)) (lst [] 0)))
 (Q (iZ (IntKind.wrap .i64 (left+1))) zJZ))
 (Q (iZ (IntKind.wrap .i64 (left+1))) zJZ))
 False))))))))))):=by kernel_rfl
end Go.V
set_option linter.unusedSectionVars false
namespace Go.V
open Go Go.Proofs

theorem zN7 (t:T) (left deep:Int):zN4 t left deep=if zN3 t left deep=true then countL t.l 1 left deep else wr (left+1):=by
 cases t
 rw [zN4]
 rfl

theorem zN8 {n:Int} (h1:-9223372036854775808<=n) (h2:n<=9223372036854775807):IntKind.wrap .i64 n=n:=by
 rw [IntKind.wrap_i64]; omega

theorem zN9 {l:List T} {i:Nat} (h:i<l.length) (n left deep:Int):countL (l.drop i) n left deep =
  if wr (n+zN4 l[i] (wr (left - n)) (wr (deep - 1))) > left then wr (left+1) else countL (l.drop (i+1)) (wr (n+zN4 l[i] (wr (left - n)) (wr (deep - 1)))) left deep:=by
 rw [List.drop_eq_getElem_cons h,countL]

theorem zNA {l:List T} {i:Nat} (h:i<l.length):(AV.vptr (AV.cells (List.getD (tcellL l) i AV.undef)))=AV.vptr (tc l[i]):=by
 rw [zMI h,zMF]; rfl

section
variable {B:Nat} {w0:World} {G:Nat->AV}
theorem loop130 {N:Nat} {t:T} {left deep:Int} (hH:zIP (EV B w0 G) (H130 (EV B w0 G) N)) (hN:∀ x∈t.l,SizeOf.sizeOf x<N) (Q:zDW) (a:zDN) (σ:zA6) (h:L130 t left deep (.loop (zJU Tryz.prog 130 0)) Q a σ) :
  AWp (EV B w0 G) none (zJ8 Tryz.prog 130) (.loop (zJU Tryz.prog 130 0)) Q a σ:=by
 obtain ⟨h0,h1,h2,h3⟩:=h
 refine zJS (zN5 t left deep) (x0:=(0,1)) (fun x hI=>zN0 (zKM B w0 G) hH (by kernel_rfl) (by kernel_rfl) ((vc130l B w0 G N t left deep x.1 x.2).mpr ?_)) (fun x hI e a σ hne k => ?_) h0 h1
 ·obtain ⟨i,n⟩:=x
  obtain ⟨hi,h64,hc⟩:=hI
  dsimp only at hi hc ⊢
  have hl:(tcellL t.l).length=t.l.length:=zMH _
  rw [hl]
  refine zE2 (fun hb => ?_) (fun hb => ?_)
  ·have hb:i<t.l.length:=by simpa using hb
   rw [zN9 hb] at hc
   refine ⟨⟨by omega,by omega⟩,t.l[i],by rw [Int.toNat_natCast]; exact zNA hb,t.l[i],_,_,rfl,hN _ (List.getElem_mem hb),zE2 (fun h4 => ?_) (fun h4 => ?_)⟩
   ·have h4:wr (n+zN4 t.l[i] (wr (left - n)) (wr (deep - 1))) > left:=of_decide_eq_true h4
    rw [if_pos h4] at hc
    exact ⟨by rw [hc]; rfl,rfl,trivial⟩
   ·have h4:¬ wr (n+zN4 t.l[i] (wr (left - n)) (wr (deep - 1))) > left:=of_decide_eq_false h4
    rw [if_neg h4] at hc
    exact ⟨(i+1,wr (n+zN4 t.l[i] (wr (left - n)) (wr (deep - 1)))),⟨⟨hb,h64,hc⟩,show t.l.length - (i+1)<t.l.length - i by omega⟩,rfl,rfl,rfl,rfl,rfl,rfl,by
     have:IntKind.wrap .i64 ((i:Int)+1)=((i+1:Nat):Int):=by rw [zN8 (by omega) (by omega)]; omega
     rw [this],rfl,rfl,trivial⟩
  ·have hb:¬ i<t.l.length:=by simpa using hb
   rw [List.drop_of_length_le (by omega),countL] at hc
   exact ⟨by rw [hc],rfl,trivial⟩
 ·cases e with
  | exit id =>
   cases id with
   | zero=>exact zJT (F:=[(9,.v (iZ (countL t.l 1 left deep)))]) (FL:=[]) (L:=[]) (m:=0) k h2
   | succ id=>exact k.elim
  | ret=>exact zJT (F:=[(8,.v (iZ (countL t.l 1 left deep)))]) (FL:=[]) (L:=[]) (m:=0) k h3
  | normal=>exact absurd rfl hne
  | _=>exact k.elim

variable (hG:∀ i,zJV (G i))
include hG
theorem c154:zJD (EV B w0 G) 154 C154:=by
 rintro args σ Q ⟨s,rfl,hQ⟩
 exact c154_ok hG hQ

theorem zNB:zJV zMM:=(zJX zMM (by kernel_rfl)).1

theorem zNC:∀ N,zJD (EV B w0 G) 130 (C130 N)
 | 0=>by
  rintro args σ Q ⟨t,left,deep,rfl,hN,hQ⟩
  omega
 | N+1=>by
  rintro args σ Q ⟨t,left,deep,rfl,hN,hQ⟩
  have hH:zIP (EV B w0 G) (H130 (EV B w0 G) N):=zJJ (zKM B w0 G) (zJI (c154 hG) (zJI (zNC N) zJH))
  refine zN1 hG (fun v hv => ?_) (.int _ _) (fun Q hQ => ?_) hQ
  ·simp only [List.mem_cons,List.not_mem_nil,or_false] at hv
   rcases hv with rfl | rfl | rfl | rfl
   ·exact zMK t
   ·exact .int _ _
   ·exact .int _ _
   ·exact zNB hG
  refine zJ9 (zKM B w0 G) hH (fun l hl _ Q a σ k => ?_) ((vc130 B w0 G N t left deep Q).mpr ?_)
  ·change l∈zJ7 Tryz.prog 130 at hl
   rw [zN6] at hl
   simp only [List.mem_cons,List.not_mem_nil,or_false] at hl
   subst hl
   exact loop130 hH (fun x hx=>by have:=T.sizeOf_mem hx; omega) Q a σ k
  ·have hl:(tcellL t.l).length=t.l.length:=zMH _
   have bad:zN3 t left deep=false->∀ σ',Q (iZ (IntKind.wrap .i64 (left+1))) σ':=fun h σ'=>by
    have:=hQ σ'
    rw [zN7,h] at this
    exact this
   have good:zN3 t left deep=true->t.l.length<=64->((0<=t.l.length/\t.l.length<=64/\countL t.l 1 left deep=countL (t.l.drop 0) 1 left deep)/\∀ σ',Q (iZ (countL t.l 1 left deep)) σ'):=fun h h64=>by
    refine ⟨⟨Nat.zero_le _,h64,by simp⟩,fun σ' => ?_⟩
    have:=hQ σ'
    rw [zN7,h] at this
    exact this
   rw [hl]
   refine zE2 (fun h1=>bad (by simp [zN3,h1]) _) (fun h1 => ?_)
   refine zE2 (fun h2=>bad (by simp [zN3,h2]) _) (fun h2 => ?_)
   have nodeF:zN3 t left deep=zN2 t:=by simp [zN3,h1,h2]
   rw [nodeF] at bad good
   refine zE2 (fun h3 => ?_) (fun h3=>zE2 (fun h4 => ?_) (fun h4 => ?_))
   ·have h3:t.k<1:=by simpa using h3
    exact bad (by unfold zN2; rw [if_neg (by omega),if_neg (by omega),if_neg (by omega),if_neg (by omega),if_neg (by omega),if_neg (by omega)]) _
   ·have h4:t.k > 6:=by simpa using h4
    exact bad (by unfold zN2; rw [if_neg (by omega),if_neg (by omega),if_neg (by omega),if_neg (by omega),if_neg (by omega),if_neg (by omega)]) _
   have h3:¬ t.k<1:=by simpa using h3
   have h4:¬ t.k > 6:=by simpa using h4
   refine ⟨by omega,by omega,?_⟩
   have hkk:t.k=1\/t.k=2\/t.k=3\/t.k=4\/t.k=5\/t.k=6:=by omega
   rcases hkk with hk | hk | hk | hk | hk | hk
   ·have hf:zN2 t=(zAI t.s ⟨⟨[]⟩⟩&&(decide ((t.l.length:Int)=0)&&(decide (t.n ≥ 0)&&decide (t.n<100000)))):=by unfold zN2; rw [if_pos hk]
    rw [hf] at bad good
    refine zE2 (fun h=>by rw [hk] at h; exact absurd h (by decide)) (fun _ => ?_)
    refine zE2 (fun _ => ?_) (fun h=>by rw [hk] at h; exact absurd h (by decide))
    refine zE2 (fun c1=>zE2 (fun c2=>zE2 (fun c3=>zE2 (fun c4=>bad (by simp_all <;> omega) _) (fun c4 => ?_)) (fun c3=>bad (by simp_all <;> omega) _)) (fun c2=>bad (by simp_all <;> omega) _)) (fun c1=>bad (by simp_all <;> omega) _)
    have c2':(t.l.length:Int)=0:=by simpa using c2
    obtain ⟨g1,g2⟩:=good (by simp_all) (by omega)
    exact ⟨g1,⟨rfl,rfl,rfl,rfl,rfl,rfl,rfl,rfl,rfl,trivial⟩,g2 _,g2 _⟩
   ·have hf:zN2 t=(zAI t.s ⟨⟨[]⟩⟩&&(decide ((t.l.length:Int)=0)&&(decide (t.n ≥ -2147483647)&&decide (t.n<=2147483647)))):=by unfold zN2; rw [if_neg (by omega),if_pos hk]
    rw [hf] at bad good
    refine zE2 (fun h=>by rw [hk] at h; exact absurd h (by decide)) (fun _ => ?_)
    refine zE2 (fun h=>by rw [hk] at h; exact absurd h (by decide)) (fun _ => ?_)
    refine zE2 (fun _ => ?_) (fun h=>by rw [hk] at h; exact absurd h (by decide))
    refine zE2 (fun c1=>zE2 (fun c2=>zE2 (fun c3=>zE2 (fun c4=>bad (by simp_all <;> omega) _) (fun c4 => ?_)) (fun c3=>bad (by simp_all <;> omega) _)) (fun c2=>bad (by simp_all <;> omega) _)) (fun c1=>bad (by simp_all <;> omega) _)
    have c2':(t.l.length:Int)=0:=by simpa using c2
    obtain ⟨g1,g2⟩:=good (by simp_all) (by omega)
    exact ⟨g1,⟨rfl,rfl,rfl,rfl,rfl,rfl,rfl,rfl,rfl,trivial⟩,g2 _,g2 _⟩
   ·have hf:zN2 t=(decide (t.n=0)&&(decide ((t.l.length:Int)=0)&&zMT t.s)):=by unfold zN2; rw [if_neg (by omega),if_neg (by omega),if_pos hk]
    rw [hf] at bad good
    refine zE2 (fun h=>by rw [hk] at h; exact absurd h (by decide)) (fun _ => ?_)
    refine zE2 (fun h=>by rw [hk] at h; exact absurd h (by decide)) (fun _ => ?_)
    refine zE2 (fun h=>by rw [hk] at h; exact absurd h (by decide)) (fun _ => ?_)
    refine zE2 (fun _ => ?_) (fun h=>by rw [hk] at h; exact absurd h (by decide))
    refine zE2 (fun c1=>zE2 (fun c2=>⟨t.s,rfl,zE2 (fun c3=>bad (by simp_all <;> omega) _) (fun c3 => ?_)⟩) (fun c2=>bad (by simp_all <;> omega) _)) (fun c1=>bad (by simp_all <;> omega) _)
    have c2':(t.l.length:Int)=0:=by simpa using c2
    obtain ⟨g1,g2⟩:=good (by simp_all) (by omega)
    exact ⟨g1,⟨rfl,rfl,rfl,rfl,rfl,rfl,rfl,rfl,rfl,trivial⟩,g2 _,g2 _⟩
   ·have hf:zN2 t=(decide (t.n=0)&&(decide ((t.l.length:Int)=0)&&decide ((t.s.size:Int)<=255))):=by unfold zN2; rw [if_neg (by omega),if_neg (by omega),if_neg (by omega),if_pos hk]
    rw [hf] at bad good
    refine zE2 (fun h=>by rw [hk] at h; exact absurd h (by decide)) (fun _ => ?_)
    refine zE2 (fun h=>by rw [hk] at h; exact absurd h (by decide)) (fun _ => ?_)
    refine zE2 (fun h=>by rw [hk] at h; exact absurd h (by decide)) (fun _ => ?_)
    refine zE2 (fun h=>by rw [hk] at h; exact absurd h (by decide)) (fun _ => ?_)
    refine zE2 (fun _ => ?_) (fun h=>by rw [hk] at h; exact absurd h (by decide))
    refine zE2 (fun c1=>zE2 (fun c2=>zE2 (fun c3=>bad (by simp_all <;> omega) _) (fun c3 => ?_)) (fun c2=>bad (by simp_all <;> omega) _)) (fun c1=>bad (by simp_all <;> omega) _)
    have c2':(t.l.length:Int)=0:=by simpa using c2
    obtain ⟨g1,g2⟩:=good (by simp_all) (by omega)
    exact ⟨g1,⟨rfl,rfl,rfl,rfl,rfl,rfl,rfl,rfl,rfl,trivial⟩,g2 _,g2 _⟩
   ·have hf:zN2 t=(decide (t.n=0)&&(zMT t.s&&(decide ((t.l.length:Int) ≥ 1)&&decide ((t.l.length:Int)<=16)))):=by unfold zN2; rw [if_neg (by omega),if_neg (by omega),if_neg (by omega),if_neg (by omega),if_pos hk]
    rw [hf] at bad good
    refine zE2 (fun h=>by rw [hk] at h; exact absurd h (by decide)) (fun _ => ?_)
    refine zE2 (fun h=>by rw [hk] at h; exact absurd h (by decide)) (fun _ => ?_)
    refine zE2 (fun h=>by rw [hk] at h; exact absurd h (by decide)) (fun _ => ?_)
    refine zE2 (fun h=>by rw [hk] at h; exact absurd h (by decide)) (fun _ => ?_)
    refine zE2 (fun h=>by rw [hk] at h; exact absurd h (by decide)) (fun _ => ?_)
    refine zE2 (fun _ => ?_) (fun h=>by rw [hk] at h; exact absurd h (by decide))
    refine zE2 (fun c1=>⟨t.s,rfl,zE2 (fun c2=>zE2 (fun c3=>zE2 (fun c4=>bad (by simp_all <;> omega) _) (fun c4 => ?_)) (fun c3=>bad (by simp_all <;> omega) _)) (fun c2=>bad (by simp_all <;> omega) _)⟩) (fun c1=>bad (by simp_all <;> omega) _)
    have c4':(t.l.length:Int)<=16:=by simpa using c4
    obtain ⟨g1,g2⟩:=good (by simp_all) (by omega)
    exact ⟨g1,⟨rfl,rfl,rfl,rfl,rfl,rfl,rfl,rfl,rfl,trivial⟩,g2 _,g2 _⟩
   ·have hf:zN2 t=(decide (t.n=0)&&(zAI t.s ⟨⟨[]⟩⟩&&decide ((t.l.length:Int)<=64))):=by unfold zN2; rw [if_neg (by omega),if_neg (by omega),if_neg (by omega),if_neg (by omega),if_neg (by omega),if_pos hk]
    rw [hf] at bad good
    refine zE2 (fun h=>by rw [hk] at h; exact absurd h (by decide)) (fun _ => ?_)
    refine zE2 (fun h=>by rw [hk] at h; exact absurd h (by decide)) (fun _ => ?_)
    refine zE2 (fun h=>by rw [hk] at h; exact absurd h (by decide)) (fun _ => ?_)
    refine zE2 (fun h=>by rw [hk] at h; exact absurd h (by decide)) (fun _ => ?_)
    refine zE2 (fun h=>by rw [hk] at h; exact absurd h (by decide)) (fun _ => ?_)
    refine zE2 (fun h=>by rw [hk] at h; exact absurd h (by decide)) (fun _ => ?_)
    refine zE2 (fun _ => ?_) (fun h=>by rw [hk] at h; exact absurd h (by decide))
    refine zE2 (fun c1=>zE2 (fun c2=>zE2 (fun c3=>bad (by simp_all <;> omega) _) (fun c3 => ?_)) (fun c2=>bad (by simp_all <;> omega) _)) (fun c1=>bad (by simp_all <;> omega) _)
    have c3':(t.l.length:Int)<=64:=by simpa using c3
    obtain ⟨g1,g2⟩:=good (by simp_all) (by omega)
    exact ⟨g1,⟨rfl,rfl,rfl,rfl,rfl,rfl,rfl,rfl,rfl,trivial⟩,g2 _,g2 _⟩
end
end Go.V
