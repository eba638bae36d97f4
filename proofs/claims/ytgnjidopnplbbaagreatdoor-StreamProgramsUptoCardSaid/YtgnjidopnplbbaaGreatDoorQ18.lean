/- A part of the proof of the statement S8 (texts brought together and shortened by a program of this work). -/
import Derived.Test.YtgnjidopnplbbaaGreatDoorQ11
import Derived.Test.YtgnjidopnplbbaaGreatDoorQ8
import Derived.Test.YtgnjidopnplbbaaGreatDoorQ12
import Derived.Test.YtgnjidopnplbbaaGreatDoorQ13
import Derived.Shelf.Sort.Plain
import Derived.Shelf.Slices.In.SortNone
import Derived.KernelRfl
import Derived.Test.YtgnjidopnplbbaaGreatDoorProg
import Derived.Sort.OwnSortedInts
import Derived.Test.YtgnjidopnplbbaaGreatDoorQ14
set_option linter.unusedSimpArgs false
set_option linter.unusedVariables false
namespace Go.V

structure OE where
 cs:List AV
 g:Bool
structure RS where
 id:Nat
 n:Nat
def RS.v (x:RS):AV:=.rslice x.id 0 x.n

def zP2 (l:List Nat):List AV:=l.map fun (i:Nat)=>iZ (i:Int)
noncomputable abbrev lB (f i:Nat):Code:=zKH (zKG Go.Proofs.Tryz.prog [] f i)
abbrev nL:zFV:=fun _ _ _ _=>False
theorem zP3 {E:Env} {H:zDY} {rd:Option Nat} {n:Nat} {an:zDM} {hs:zIE} {c:Code} {Q:zDW} {a:zDN} {σ:zA6} (hH:zIP E H) (hm:E.P.follows .mixedOrders=true) (hc:zFX n an c=true) (h:wpX [] E H (fun _ _ _ _=>False) an hs c Q a σ):AWp E rd n c Q a σ:=zKC (cuts:=[]) hH hm _ _ _ _ (fun p hp hc Q a σ k=>k.elim) hc h
abbrev Dn (v w:AV):Prop:=(v = .nilslice/\TV.v .nilslice=TV.v w)\/∃ x:RS,v = .rslice x.id 0 x.n/\TV.v (.rslice x.id 0 x.n)=TV.v w
end Go.V
set_option maxRecDepth 1000000
namespace Go.V
open Go Go.Proofs
variable (B:Nat) (w0:World) (G:Nat->AV)
def hEl (e sz:Nat):zIB:=zIB.of (fun x:OE=>zA5.cells x.cs e sz x.g)
def hAt (l:List (Nat×Nat×zIB)):zIE:=fun id i=>match l.find? (fun x=>Nat.beq x.1 id&&Nat.beq x.2.1 i) with
 | some x=>x.2.2
 | none=>zIB.no
end Go.V
set_option maxRecDepth 100000
set_option linter.unusedSectionVars false



namespace Go.Proofs
open Go.Shelf

theorem Tryz.sort_int:Nat.succ 7=8:=rfl
#print axioms Tryz.sort_int
end Go.Proofs

























namespace Go.V
open Go Go.Proofs

theorem Wk.sliceL {sz:Nat} {xs ys:List AV} {m:Cap} (hl:xs.length=ys.length) (hw:WkL (zA0 xs) (zA0 ys)) (hsz:∀ y∈ys,y.cells.length=sz) (h1:(zA0 ys).all AV.one=true):Wk (.slice sz xs m) (.slice sz ys .any):=by
 intro g u h
 rcases h.slice_inv with ⟨a,cap,vs,rfl,hv⟩ | ⟨rfl,rfl,rfl⟩
 ·have:=zCA.rv (g:=g) (sz:=sz) (xs:=ys) (m:=.any) (a:=a) (cap:=cap) (vs:=vs) ⟨hsz,hw.rv hv.hr,hv.hsp,hv.hF,h1,by rw [<-hl]; exact hv.hcap,trivial⟩
  rw [hl]; exact this
 ·have:ys=[]:=List.length_eq_zero_iff.1 (by rw [<-hl]; rfl)
  subst this
  exact .nilany sz
theorem WkL.append {a b c d:List AV} (h:WkL a b) (k:WkL c d):WkL (a++c) (b++d):=by
 induction h with
 | nil=>exact k
 | cons h hs ih=>exact .cons h ih
theorem kind3:zAC Tryz.prog 3=some none:=by kernel_rfl

theorem zP4 {P:Program} {σ:zA6} {sz:Nat} {xs ys:List AV} {m:Cap} {n:Nat} (h:xs.mapM (deep P σ n)=some ys):deep P σ (n+1) (.slice sz xs m)=some (.slice sz ys (zK1 m)):=by
 show (xs.mapM (deep P σ n)).map _=_
 rw [h]; rfl
theorem zP5 {P:Program} {σ:zA6} {n id off len e sz:Nat} {cs ys:List AV} {g:Bool} {k:Option Nat} (ho:σ.objs id = .cells cs e sz g) (hk:zAC P e=some k) (h1:k.getD 1=sz) (h2:0<sz) (h3:(off+len)*sz<=cs.length)
  (hm:(zAH k ((cs.drop (off*sz)).take (len*sz)) len).mapM (deep P σ n)=some ys):deep P σ (n+1) (.rslice id off len)=some (.slice sz ys .nn):=by
 subst h1
 have hle:Nat.ble ((off+len)*k.getD 1) cs.length=true:=Nat.ble_eq_true_of_le h3
 have hlt:Nat.blt 0 (k.getD 1)=true:=Nat.ble_eq_true_of_le h2
 have hbq:Nat.beq (k.getD 1) (k.getD 1)=true:=Nat.beq_refl _
 simp only [deep,ho,hk,hle,hlt,hbq,Bool.and_self]
 rw [hm]; rfl
end Go.V




namespace Go.V
open Go Go.Proofs
variable (B:Nat) (w0:World) (G:Nat->AV)
def zP6:zIB:=⟨false,some ⟨RS,RS.v⟩,none,true⟩
end Go.V
namespace Go.V
open Go Go.Proofs

theorem zP7:∀ l:List T,zAH (some 4) (zA0 (tcellL l)) l.length=tcellL l
 | []=>rfl
 | x :: l=>by
  show zAH (some 4) (zA0 (zME x :: tcellL l)) (l.length+1)=_
  obtain ⟨k,n,s,q⟩:=x
  rw [zC3]
  show AV.agg ((([iZ k,iZ n,.str s,.slice 4 (tcellL q) .any]:List AV)++zA0 (tcellL l)).take 4) :: zAH (some 4) ((([iZ k,iZ n,.str s,.slice 4 (tcellL q) .any]:List AV)++zA0 (tcellL l)).drop 4) l.length=_
  rw [List.take_left' (by rfl),List.drop_left' (by rfl),zP7 l]; rfl
theorem kind37:zAC Tryz.prog 37=some (some 4):=by kernel_rfl

end Go.V
namespace Go.V
open Go Go.Proofs

theorem zP8 (l:List T) (t:T):zA0 (tcellL (l++[t]))=zA0 (tcellL l)++tc t:=by
 rw [zMG,List.map_append,zC4,<-zMG]
 congr 1
 cases t
 simp [zA0,AV.cells,zME,tc]
 exact ⟨rfl,rfl,rfl,rfl⟩

end Go.V



namespace Go.V
open Go Go.Proofs
variable (B:Nat) (w0:World) (G:Nat->AV)
def zP9 (l:List Int):List AV:=l.map fun i=>iZ i
end Go.V
namespace Go.V
open Go Go.Proofs

theorem zPA (l:List Int):(zP9 l).length=l.length:=List.length_map _
theorem zPB {l:List Int} {i:Nat} (h:i<l.length):AV.vptr (AV.cells ((zP9 l).getD i .undef)) = .vptr [iZ l[i]]:=by
 unfold zP9; rw [List.getD,List.getElem?_map,List.getElem?_eq_getElem h]; rfl
theorem zPC (l:List Int):zJV (.slice 1 (zP9 l) .any):=.slice (by simp) fun y hy=>by
 unfold zP9 zA0 at hy
 rw [List.mem_flatMap] at hy
 obtain ⟨x,hx,hy⟩:=hy
 obtain ⟨z,_,rfl⟩:=List.mem_map.1 hx
 simp only [AV.cells,List.mem_cons,List.not_mem_nil,or_false] at hy
 subst hy; exact .int _ _
theorem intsV_Z (l:List Nat):zP2 l=zP9 (l.map fun n:Nat=>(n:Int)):=by
 unfold zP2 zP9; rw [List.map_map]; rfl
theorem noObj_le:zJZ.Le zJZ.untok:=⟨rfl,fun id => .inr rfl⟩
end Go.V


namespace Go.V
open Go Go.Proofs

theorem zPD {cs:List AV} {k:Nat} (h:k<cs.length) (v:AV):zAF cs k [v]=cs.set k v:=by
 rw [List.set_eq_take_append_cons_drop,if_pos h]; unfold zAF; simp
end Go.V

namespace Go.V
open Go Go.Proofs

theorem slT_noId (l:List T):zJV (.slice 4 (tcellL l) .any):=.slice (by simp) fun y hy=>(tcellL_noId l).2 y hy
end Go.V
namespace Go.V
open Go Go.Proofs
variable (B:Nat) (w0:World) (G:Nat->AV)
mutual
def zPE:T->List T
 | .mk k n s l => .mk k n s l :: nodesTL l
def nodesTL:List T->List T
 | []=>[]
 | x :: l=>zPE x++nodesTL l
end

def handY (Y:Nat->zJC) (H:zDY):zDY:=fun t args σ K=>match t with
 | .yield id=>Y id args σ K
 | .fn f=>H (.fn f) args σ K
def YTn (yid:Nat) (S:List T->zA6->Prop):Nat->zJC:=fun id args σ K=>∃ (t:T) (acc:List T),(id=yid/\args=[.agg (tc t)])/\(acc.length<100000/\S acc σ)/\∀ σ':zA6,S (acc++[t]) σ'->K (.bool true) σ'
def C208 (yid:Nat) (S:List T->zA6->Prop) (N:Nat):zJC:=fun args σ K=>∃ (t:T) (acc:List T),args=[.agg (tc t),.yield yid]/\(SizeOf.sizeOf t<N/\acc.length+(zPE t).length<=100000/\S acc σ) /\
 ∀ σ':zA6,S (acc++zPE t) σ'->K (.bool true) σ'
def H208 (E:Env) (yid:Nat) (S:List T->zA6->Prop) (N:Nat):zDY:=handY (YTn yid S) (hnd E zHI zMU [(208,C208 yid S N)])
structure zPF where
 σ:zA6
 acc:List T
 i:Nat
def hT:zIB:=zIB.as (fun t:T => .vptr (tc t))
def zPG (yid:Nat) (t:T) (I:zPF->Prop):LS zPF where
 F y:=[(1,.v (.yield yid)),(12,.v (.slice 4 (tcellL t.l) .any)),(13,.v (iZ ((tcellL t.l).length:Int))),(14,.v (iZ (y.i:Int)))]
 FL _:=[]
 S y:=y.σ
 I:=I
 μ y:=t.l.length - y.i
 Ex y e a σ:=match e with
  | .exit 0=>¬ (y.i<t.l.length)/\atF a [] [] (y.σ.Le σ)
  | _=>False
def N208:zIE:=hAt [(5,0,hT)]
theorem zPH:zKE Tryz.prog [] 208=[.loop (lB 208 0)]:=by kernel_rfl
theorem vc208l (yid:Nat) (S:List T->zA6->Prop) (N:Nat) (t:T) (I:zPF->Prop) (y:zPF):(wpX [] (EV B w0 G) (H208 (EV B w0 G) yid S N) nL (zHI 208) N208 (lB 208 0) ((zPG yid t I).post y) (frm [(1,.v (.yield yid)),(12,.v (.slice 4 (tcellL t.l) .any)),(13,.v (iZ ((tcellL t.l).length:Int))),(14,.v (iZ (y.i:Int)))] []) y.σ) =
 (bcase (decide ((zPF.i y:Int)<(List.length (tcellL (T.l t)):Int)))
 (((0:Int)<=(zPF.i y:Int)/\(zPF.i y:Int)<(List.length (tcellL (T.l t)):Int))/\∃ x0:T,AV.vptr (AV.cells (List.getD (tcellL (T.l t)) (Int.toNat (↑(zPF.i y):Int)) AV.undef))=AV.vptr (tc x0)/\∃ t1:T,∃ acc2:List T,[AV.agg (tc x0),AV.yield yid]=[AV.agg (tc t1),AV.yield yid]/\(SizeOf.sizeOf t1<N/\(((List.length acc2)+(List.length (zPE t1))):Nat)<=100000/\S acc2 y.1)/\(∀ σ'3:zA6,((S (acc2++(zPE t1)) σ'3)->(∃ x'4:zPF,(I x'4/\LS.μ (zPG yid t I) x'4<LS.μ (zPG yid t I) y)/\Rf (TV.v (AV.yield yid))/\Rf (TV.v (sT (T.l t)))/\Rf (TV.v (iZ (List.length (tcellL (T.l t)):Int)))/\TV.v (iZ (IntKind.wrap .i64 ((zPF.i y:Int)+1)))=TV.v (iZ (zPF.i x'4:Int))/\zA6.Le ((zPG yid t I).3 x'4) σ'3))))
 (((zPF.i y<List.length (T.l t))->False)/\zA6.Le y.1 y.1)):=by kernel_rfl
def T208 (yid:Nat) (t:T) (I R:zPF->Prop):zFV:=fun _ Q a σ=>∃ y:zPF,I y/\atF a ((zPG yid t I).F y) [] (y.σ.Le σ)/\∀ y':zPF,R y'->Q (.exit 0) (frm [] []) y'.σ
theorem vc208 (yid:Nat) (S:List T->zA6->Prop) (N:Nat) (t:T) (I R:zPF->Prop) (σ:zA6) (Q:AV->zA6->Prop):(zKD [] (EV B w0 G) (H208 (EV B w0 G) yid S N) (T208 yid t I R) zHI zMV 208 [.agg (tc t),.yield yid] σ Q) =
 (∃ t0:T,∃ acc1:List T,(yid=yid/\[AV.agg (tc t)]=[AV.agg (tc t0)])/\(List.length acc1<100000/\S acc1 σ)/\(∀ σ'2:zA6,((S (acc1++[t0]) σ'2)->(∃ y3:zPF,I y3/\(Rf (TV.v (AV.yield yid))/\Rf (TV.v (sT (T.l t)))/\Rf (TV.v (iZ (List.length (tcellL (T.l t)):Int)))/\TV.v (iZ 0)=TV.v (iZ (zPF.i y3:Int))/\zA6.Le y3.1 σ'2)/\(∀ y'4:zPF,((R y'4)->(Q (AV.bool true) y'4.1))))))):=by kernel_rfl
structure OT where
 t:T
 g:Bool
def N207:zIE:=hAt [(0,0,zIB.of (fun x:OT=>zA5.cells (tc x.t) 37 4 x.g))]
theorem vc207 (yid:Nat) (S:List T->zA6->Prop) (N:Nat) (b:Nat) (σ:zA6) (Q:AV->zA6->Prop):(zKD [] (EV B w0 G) (hnd (EV B w0 G) zHI zMU [(208,C208 yid S N)]) nL zHI N207 207 [.yield yid,.ptr b 0] σ Q) =
 (∃ a0:OT,zA6.objs σ b=zA5.cells (tc (OT.t a0)) 37 4 (OT.g a0)/\(4:Nat)<=4/\∃ t1:T,∃ acc2:List T,[AV.agg (tc (OT.t a0)),AV.yield yid]=[AV.agg (tc t1),AV.yield yid]/\(SizeOf.sizeOf t1<N/\(((List.length acc2)+(List.length (zPE t1))):Nat)<=100000/\S acc2 σ)/\(∀ σ'3:zA6,((S (acc2++(zPE t1)) σ'3)->(Q (AV.tuple []) σ'3)))):=by kernel_rfl
end Go.V
namespace Go.V
open Go Go.Proofs

theorem zPI {E:Env} {Y:Nat->zJC} {H:zDY} (hH:zIP E H) (hY:∀ id args σ Q,Y id args σ Q->zDZ E id args σ Q):zIP E (handY Y H):=fun t args σ Q h=>by
 cases t with
 | yield id=>exact hY _ _ _ _ h
 | fn f=>exact hH _ _ _ _ h

theorem zPJ (t:T):zPE t=t :: nodesTL t.l:=by
 cases t; rw [zPE]; rfl
theorem zPK:∀ l m:List T,nodesTL (l++m)=nodesTL l++nodesTL m
 | [],m=>rfl
 | x :: l,m=>by
  show nodesTL (x :: (l++m))=nodesTL (x :: l)++nodesTL m
  rw [nodesTL,nodesTL,zPK l m,List.append_assoc]
theorem zPL {l:List T} {i:Nat} (h:i<l.length):nodesTL (l.take (i+1))=nodesTL (l.take i)++zPE l[i]:=by
 rw [List.take_succ_eq_append_getElem h,zPK]
 simp [nodesTL]
theorem zPM (l:List T) (i:Nat):(nodesTL (l.take i)).length<=(nodesTL l).length:=by
 have:=zPK (l.take i) (l.drop i)
 rw [List.take_append_drop] at this
 rw [this,List.length_append]; omega
theorem zPN (t:T):1<=(zPE t).length:=by
 rw [zPJ]; simp
theorem zPO:∀ l:List T,l.length<=(nodesTL l).length
 | []=>Nat.zero_le _
 | x :: l=>by
  have h1:=zPO l
  have h2:=zPN x
  rw [nodesTL,List.length_append,List.length_cons]; omega

section
variable {B:Nat} {w0:World} {G:Nat->AV}
theorem zPP {yid:Nat} {S:List T->zA6->Prop} (hY:∀ id args σ Q,YTn yid S id args σ Q->zDZ (EV B w0 G) id args σ Q):∀ N,zJD (EV B w0 G) 208 (C208 yid S N)
 | 0=>by
  rintro args σ Q ⟨t,acc,rfl,⟨hN,_⟩,hQ⟩
  omega
 | N+1=>by
  rintro args σ Q ⟨t,acc,rfl,⟨hN,hb,hS⟩,hQ⟩
  have hH:zIP (EV B w0 G) (H208 (EV B w0 G) yid S N):=zPI (zJJ (zKM B w0 G) (zJI (zPP hY N) zJH)) hY
  have hb2:acc.length+1+(nodesTL t.l).length<=100000:=by rw [zPJ,List.length_cons] at hb; omega
  have hlen:=zPO t.l
  refine zKF (cuts:=[]) (zKM B w0 G) hH (fun lp hl _ Q a' σ kk => ?_) ((vc208 B w0 G yid S N t (fun y=>y.i<=t.l.length/\S (acc++[t]++nodesTL (t.l.take y.i)) y.σ) (fun y=>S (acc++zPE t) y.σ) σ Q).mpr
   ⟨t,acc,⟨rfl,rfl⟩,⟨by omega,hS⟩,fun σ' hS'=>⟨⟨σ',acc,0⟩,⟨Nat.zero_le _,by simpa [nodesTL] using hS'⟩,⟨rfl,rfl,rfl,rfl,.refl _⟩,fun y' hy=>hQ _ hy⟩⟩)
  change lp∈zKE Tryz.prog [] 208 at hl
  rw [zPH] at hl
  simp only [List.mem_cons,List.not_mem_nil,or_false] at hl
  subst hl
  obtain ⟨y0,hI0,hat,hR⟩:=kk
  refine zK5 (zPG yid t (fun y=>y.i<=t.l.length/\S (acc++[t]++nodesTL (t.l.take y.i)) y.σ)) (x0:=y0) (fun y hI => ?_) (fun y hI e a' σ hne kk => ?_) hI0 hat
  ·have hI':y.i<=t.l.length/\S (acc++[t]++nodesTL (t.l.take y.i)) y.σ:=hI
   obtain ⟨hi,hSy⟩:=hI'
   show AWp _ _ _ _ _ (frm [(1,.v (.yield yid)),(12,.v (.slice 4 (tcellL t.l) .any)),(13,.v (iZ ((tcellL t.l).length:Int))),(14,.v (iZ (y.i:Int)))] []) y.σ
   refine zKC hH (zKM B w0 G) (L:=nL) _ _ _ _ (fun p hp hc Q a σ k=>k.elim) (by kernel_rfl) ((vc208l B w0 G yid S N t _ y).mpr (zE2 (fun h => ?_) (fun h=>⟨fun h2 => ?_,.refl _⟩)))
   ·have h:=of_decide_eq_true h
    have hk:y.i<t.l.length:=by rw [zMH] at h; omega
    have w1:IntKind.wrap .i64 ((y.i:Int)+1)=((y.i+1:Nat):Int):=by rw [zN8 (by omega) (by omega)]; omega
    have hle:=zPM t.l (y.i+1)
    rw [zPL hk,List.length_append] at hle
    refine ⟨⟨by omega,h⟩,t.l[y.i],by rw [Int.toNat_natCast]; exact zNA hk,t.l[y.i],acc++[t]++nodesTL (t.l.take y.i),rfl,⟨?_,?_,hSy⟩,fun σ' hS'=>⟨⟨σ',acc,y.i+1⟩,⟨⟨hk,?_⟩,?_⟩,rfl,rfl,rfl,?_,.refl _⟩⟩
    ·have:=T.sizeOf_mem (List.getElem_mem hk); omega
    ·simp only [List.length_append,List.length_cons,List.length_nil]; omega
    ·show S (acc++[t]++nodesTL (t.l.take (y.i+1))) σ'
     rw [zPL hk,<-List.append_assoc]; exact hS'
    ·show t.l.length - (y.i+1)<t.l.length - y.i
     omega
    ·show TV.v (iZ _)=TV.v (iZ ((y.i+1:Nat):Int))
     rw [w1]
   ·have h:=of_decide_eq_false h
    rw [zMH] at h; omega
  ·have hI':y.i<=t.l.length/\S (acc++[t]++nodesTL (t.l.take y.i)) y.σ:=hI
   obtain ⟨hi,hSy⟩:=hI'
   cases e with
   | exit j =>
    match j,kk with
    | 0,kk =>
     have hk:¬ y.i<t.l.length:=kk.1
     refine ⟨_,_,(zJM kk.2).1,(zJM kk.2).2,hR y ?_⟩
     rw [show y.i=t.l.length by omega,List.take_length,List.append_assoc] at hSy
     rw [zPJ]; exact hSy
   | normal=>exact absurd rfl hne
   | _=>exact kk.elim

def C207 (yid:Nat) (S:List T->zA6->Prop):zJC:=fun args σ K=>∃ (b:Nat) (t:T) (g:Bool) (acc:List T),args=[.yield yid,.ptr b 0]/\(σ.objs b = .cells (tc t) 37 4 g/\acc.length+(zPE t).length<=100000/\S acc σ) /\
 ∀ σ':zA6,S (acc++zPE t) σ'->K (.tuple []) σ'
theorem zPQ {yid:Nat} {S:List T->zA6->Prop} (hY:∀ id args σ Q,YTn yid S id args σ Q->zDZ (EV B w0 G) id args σ Q):zJD (EV B w0 G) 207 (C207 yid S):=by
 rintro args σ Q ⟨b,t,g,acc,rfl,⟨ho,hb,hS⟩,hQ⟩
 have hH:=zJJ (zKM B w0 G) (A:=zHI) (N:=zMU) (zJI (zPP hY (SizeOf.sizeOf t+1)) zJH)
 refine zKF (cuts:=[]) (zKM B w0 G) hH (fun lp hl _ Q a' σ kk=>kk.elim) ((vc207 B w0 G yid S (SizeOf.sizeOf t+1) b σ Q).mpr ⟨⟨t,g⟩,ho,Nat.le_refl _,t,acc,rfl,⟨Nat.lt_succ_self _,hb,hS⟩,fun σ' hS'=>hQ σ' hS'⟩)
end
end Go.V
