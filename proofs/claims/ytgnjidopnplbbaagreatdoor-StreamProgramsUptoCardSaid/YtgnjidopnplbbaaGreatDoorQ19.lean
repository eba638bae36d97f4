/- A part of the proof of the statement S8 (texts brought together and shortened by a program of this work). -/
import Derived.Test.YtgnjidopnplbbaaGreatDoorQ18
set_option maxRecDepth 1000000
set_option linter.unusedVariables false
namespace Go.V
open Go Go.Proofs
variable (B:Nat) (w0:World) (G:Nat->AV)
def zA4.busy (l:zA4):zA4:={ l with st:=.busy }
def zA4.again (l:zA4):zA4:={ l with st:=.ready,pend:=none }
def zPR:Code->Code
 | .rangeFunc f ps x y=>x
 | c=>c
def zPS:Code->Code
 | .rangeFunc f ps x y=>y
 | c=>c
def roundC (id:Nat) (Q:AV->zA6->Prop):zDW:=fun e _ σ=>match e with
 | .normal=>∃ l:zA4,σ.objs id = .loop l/\Q (.bool true) (σ.set id (.loop l.again))
 | _=>False
def zPT (E:Env) (H:zDY) (L:zFV) (an:zDM) (hs:zIE) (id:Nat) (body:Code) (Q:AV->zA6->Prop):zDW:=fun e a σ=>match e with
 | .normal=>∃ l:zA4,σ.objs id = .loop l/\l.st = .ready/\wpC E H L an hs body (roundC id Q) a (σ.set id (.loop l.busy))
 | _=>False

def hMapAt:zIB:=zIB.ofAs (fun x:OE=>zA5.cells x.cs 273 1 x.g) (fun m:Nat=>AV.map m)
def hLook:zIB:=zIB.ofAs (fun es:List (AV×AV)=>zA5.map es) (fun b:Bool=>AV.bool b)
def hMset:zIB:=zIB.of (fun es:List (AV×AV)=>zA5.map es)
def hOutAt:zIB:=zIB.ofNil (fun x:OE=>zA5.cells x.cs 26 1 x.g) (fun x:RS=>AV.rslice x.id 0 x.n)
def N148:zIE:=hAt [(2,2,hEl 273 1),(5,0,hT),(8,4,hMapAt),(8,7,hLook),(9,0,hMapAt),(9,3,hMset),(10,0,hOutAt),(10,4,hEl 3 1),(10,5,hEl 26 1),(12,0,hOutAt)]
theorem zPU:zKE Tryz.prog [] 148=[.loop (lB 148 0)]:=by kernel_rfl
def zPV (P:Program):Code:=zKJ [] (zKG P [] 148 0) 0
theorem zPW:zKI [] (zKG Tryz.prog [] 148 0)=[.rangeFunc (.tmp 16) #[17] (zPR (zPV Tryz.prog)) (zPS (zPV Tryz.prog))]:=by kernel_rfl
theorem vc148y (io im yid:Nat) (t:T) (σ:zA6) (Q:AV->zA6->Prop):(wpC (EV B w0 G) (H0 (EV B w0 G)) nL (zHI 148) N148 (zPR (zPV Tryz.prog)) (zPT (EV B w0 G) (H0 (EV B w0 G)) nL (zHI 148) N148 yid (zPS (zPV Tryz.prog)) Q) (frm [(3,.v (.ptr io 0)),(4,.v (.ptr im 0)),(17,.v (.agg (tc t)))] []) σ) =
 (∃ l0:zA4,zA6.objs σ yid=zA5.loop l0/\zA4.st l0=Go.LoopState.ready/\bcase (((T.k t):Int)==1)
 (∃ a1:OE,zA6.objs (zA6.set σ yid (zA5.loop (zA4.busy l0))) im=zA5.cells (OE.cs a1) 273 1 (OE.g a1)/\(0:Nat)<List.length (OE.cs a1)/\∃ x2:Nat,List.getD (OE.cs a1) 0 AV.undef=AV.map x2/\∃ a3:List (AV×AV),(zA6.objs (zA6.set σ yid (zA5.loop (zA4.busy l0))) x2)=zA5.map a3/\∃ a4:AV,zI9 Tryz.prog 273 a3 (iZ (T.n t)) false a4/\∃ x5:Bool,a4=AV.bool x5/\bcase (!(x5))
 (∃ a6:OE,zA6.objs (zA6.set σ yid (zA5.loop (zA4.busy l0))) im=zA5.cells (OE.cs a6) 273 1 (OE.g a6)/\(0:Nat)<List.length (OE.cs a6)/\∃ x7:Nat,List.getD (OE.cs a6) 0 AV.undef=AV.map x7/\∃ a8:List (AV×AV),(zA6.objs (zA6.set σ yid (zA5.loop (zA4.busy l0))) x7)=zA5.map a8/\∃ a9:List (AV×AV),MSet Tryz.prog 273 a8 (iZ (T.n t)) (AV.bool true) a9/\∃ a10:OE,zA6.objs (zA6.set (zA6.set σ yid (zA5.loop (zA4.busy l0))) x7 (zA5.map a9)) io=zA5.cells (OE.cs a10) 26 1 (OE.g a10)/\(0:Nat)<List.length (OE.cs a10)/\((List.getD (OE.cs a10) 0 AV.undef=AV.nilslice/\Bd0 8 1/\∃ a11:OE,zA6.objs (zA6.new (zA6.set (zA6.set σ yid (zA5.loop (zA4.busy l0))) x7 (zA5.map a9)) (zA5.cells [iZ (T.n t)] 3 1 true)) io=zA5.cells (OE.cs a11) 26 1 (OE.g a11)/\(1:Nat)<=List.length (OE.cs a11)/\∃ l12:zA4,zA6.objs (zA6.set (zA6.new (zA6.set (zA6.set σ yid (zA5.loop (zA4.busy l0))) x7 (zA5.map a9)) (zA5.cells [iZ (T.n t)] 3 1 true)) io (zA5.cells (zAF (OE.cs a11) 0 [AV.rslice (zA6.next σ) 0 1]) 26 1 (OE.g a11))) yid=zA5.loop l12/\Q (AV.bool true) (zA6.set (zA6.set (zA6.new (zA6.set (zA6.set σ yid (zA5.loop (zA4.busy l0))) x7 (zA5.map a9)) (zA5.cells [iZ (T.n t)] 3 1 true)) io (zA5.cells (zAF (OE.cs a11) 0 [AV.rslice (zA6.next σ) 0 1]) 26 1 (OE.g a11))) yid (zA5.loop (zA4.again l12))))\/∃ x11:RS,List.getD (OE.cs a10) 0 AV.undef=AV.rslice (RS.id x11) 0 (RS.n x11)/\∃ a12:OE,zA6.objs (zA6.set (zA6.set σ yid (zA5.loop (zA4.busy l0))) x7 (zA5.map a9)) (RS.id x11)=zA5.cells (OE.cs a12) 3 1 (OE.g a12)/\((0:Nat)=0/\Bd ((RS.n x11)+1) 8/\(((RS.n x11)*1):Nat)<=List.length (OE.cs a12))/\∃ a13:OE,zA6.objs (zA6.new (zA6.set (zA6.set (zA6.set σ yid (zA5.loop (zA4.busy l0))) x7 (zA5.map a9)) (RS.id x11) zA5.dead) (zA5.cells ((List.take ((RS.n x11)*1) (OE.cs a12))++[iZ (T.n t)]) 3 1 true)) io=zA5.cells (OE.cs a13) 26 1 (OE.g a13)/\(1:Nat)<=List.length (OE.cs a13)/\∃ l14:zA4,zA6.objs (zA6.set (zA6.new (zA6.set (zA6.set (zA6.set σ yid (zA5.loop (zA4.busy l0))) x7 (zA5.map a9)) (RS.id x11) zA5.dead) (zA5.cells ((List.take ((RS.n x11)*1) (OE.cs a12))++[iZ (T.n t)]) 3 1 true)) io (zA5.cells (zAF (OE.cs a13) 0 [AV.rslice (zA6.next σ) 0 ((RS.n x11)+1)]) 26 1 (OE.g a13))) yid=zA5.loop l14/\Q (AV.bool true) (zA6.set (zA6.set (zA6.new (zA6.set (zA6.set (zA6.set σ yid (zA5.loop (zA4.busy l0))) x7 (zA5.map a9)) (RS.id x11) zA5.dead) (zA5.cells ((List.take ((RS.n x11)*1) (OE.cs a12))++[iZ (T.n t)]) 3 1 true)) io (zA5.cells (zAF (OE.cs a13) 0 [AV.rslice (zA6.next σ) 0 ((RS.n x11)+1)]) 26 1 (OE.g a13))) yid (zA5.loop (zA4.again l14)))))
 (∃ l6:zA4,zA6.objs (zA6.set σ yid (zA5.loop (zA4.busy l0))) yid=zA5.loop l6/\Q (AV.bool true) (zA6.set (zA6.set σ yid (zA5.loop (zA4.busy l0))) yid (zA5.loop (zA4.again l6)))))
 (∃ l1:zA4,zA6.objs (zA6.set σ yid (zA5.loop (zA4.busy l0))) yid=zA5.loop l1/\Q (AV.bool true) (zA6.set (zA6.set σ yid (zA5.loop (zA4.busy l0))) yid (zA5.loop (zA4.again l1))))):=by kernel_rfl
structure zPX where
 σ:zA6
 i:Nat
def zPY (io im:Nat) (l:List T) (m:Cap) (I:zPX->Prop):LS zPX where
 F y:=[(3,.v (.ptr io 0)),(4,.v (.ptr im 0)),(9,.v (.slice 4 (tcellL l) m)),(10,.v (iZ ((tcellL l).length:Int))),(11,.v (iZ (y.i:Int)))]
 FL _:=[]
 S y:=y.σ
 I:=I
 μ y:=l.length - y.i
 Ex y e a σ:=match e with
  | .exit 0=>¬ (y.i<l.length)/\atF a [(3,.v (.ptr io 0))] [] (y.σ.Le σ)
  | _=>False
def T148r (io im:Nat) (l:List T) (m:Cap) (P:zPX->Nat->Prop) (R:Nat->zA6->Prop):zFV:=fun _ Q a σ=>∃ (y:zPX) (b:Nat),P y b /\
 atF a [(3,.v (.ptr io 0)),(4,.v (.ptr im 0)),(9,.v (.slice 4 (tcellL l) m)),(10,.v (iZ ((tcellL l).length:Int))),(11,.v (iZ (y.i:Int))),(16,.v (.func (.func 207) [] [.ptr b 0]))] [] (y.σ.Le σ) /\
 ∀ σ':zA6,R y.i σ'->Q .normal (frm [(3,.v (.ptr io 0)),(4,.v (.ptr im 0)),(9,.v (.slice 4 (tcellL l) m)),(10,.v (iZ ((tcellL l).length:Int))),(11,.v (iZ (y.i:Int)))] []) σ'
theorem vc148l (io im:Nat) (l:List T) (m:Cap) (P:zPX->Nat->Prop) (R:Nat->zA6->Prop) (I:zPX->Prop) (y:zPX):(wpX [] (EV B w0 G) (H0 (EV B w0 G)) (T148r io im l m P R) (zHI 148) N148 (lB 148 0) ((zPY io im l m I).post y) (frm [(3,.v (.ptr io 0)),(4,.v (.ptr im 0)),(9,.v (.slice 4 (tcellL l) m)),(10,.v (iZ ((tcellL l).length:Int))),(11,.v (iZ (y.i:Int)))] []) y.σ) =
 (bcase (decide ((zPX.i y:Int)<(List.length (tcellL l):Int)))
 (((0:Int)<=(zPX.i y:Int)/\(zPX.i y:Int)<(List.length (tcellL l):Int))/\∃ x0:T,AV.vptr (AV.cells (List.getD (tcellL l) (Int.toNat (↑(zPX.i y):Int)) AV.undef))=AV.vptr (tc x0)/\∃ y1:zPX,∃ b2:Nat,P y1 b2/\(Rf (TV.v (AV.ptr io 0))/\Rf (TV.v (AV.ptr im 0))/\Rf (TV.v (AV.slice 4 (tcellL l) m))/\Rf (TV.v (iZ (List.length (tcellL l):Int)))/\TV.v (iZ (zPX.i y:Int))=TV.v (iZ (zPX.i y1:Int))/\TV.v (AV.func (Go.Fn.func 207) [] [AV.ptr (zA6.next y.1) 0])=TV.v (AV.func (Go.Fn.func 207) [] [AV.ptr b2 0])/\zA6.Le y1.1 (zA6.new y.1 (zA5.cells (tc x0) 37 4 false)))/\(∀ σ'3:zA6,((R (zPX.i y1) σ'3)->(∃ x'4:zPX,(I x'4/\LS.μ (zPY io im l m I) x'4<LS.μ (zPY io im l m I) y)/\Rf (TV.v (AV.ptr io 0))/\Rf (TV.v (AV.ptr im 0))/\Rf (TV.v (AV.slice 4 (tcellL l) m))/\Rf (TV.v (iZ (List.length (tcellL l):Int)))/\TV.v (iZ (IntKind.wrap .i64 ((zPX.i y1:Int)+1)))=TV.v (iZ (zPX.i x'4:Int))/\zA6.Le ((zPY io im l m I).3 x'4) σ'3))))
 (((zPX.i y<List.length l)->False)/\Rf (TV.v (AV.ptr io 0))/\zA6.Le y.1 y.1)):=by kernel_rfl
def T148 (l:List T) (m:Cap) (I:Nat->Nat->zPX->Prop) (R:Nat->zA6->Prop):zFV:=fun _ Q a σ=>∃ (io im:Nat) (y:zPX),I io im y/\atF a ((zPY io im l m (I io im)).F y) [] (y.σ.Le σ) /\
 ∀ σ':zA6,R io σ'->Q (.exit 0) (frm [(3,.v (.ptr io 0))] []) σ'
theorem vc148 (l:List T) (m:Cap) (I:Nat->Nat->zPX->Prop) (R:Nat->zA6->Prop) (σ:zA6) (Q:AV->zA6->Prop):(zKD [] (EV B w0 G) (H0 (EV B w0 G)) (T148 l m I R) zHI N148 148 [.slice 4 (tcellL l) m] σ Q) =
 (∃ a0:OE,zA6.objs (zA6.new (zA6.new (zA6.new σ (zA5.cells [AV.nilslice] 26 1 false)) (zA5.map [])) (zA5.cells [AV.nilmap] 273 1 false)) (((zA6.next σ)+1)+1)=zA5.cells (OE.cs a0) 273 1 (OE.g a0)/\(1:Nat)<=List.length (OE.cs a0)/\∃ io1:Nat,∃ im2:Nat,∃ y3:zPX,I io1 im2 y3/\(TV.v (AV.ptr (zA6.next σ) 0)=TV.v (AV.ptr io1 0)/\TV.v (AV.ptr (((zA6.next σ)+1)+1) 0)=TV.v (AV.ptr im2 0)/\Rf (TV.v (AV.slice 4 (tcellL l) m))/\Rf (TV.v (iZ (List.length (tcellL l):Int)))/\TV.v (iZ 0)=TV.v (iZ (zPX.i y3:Int))/\zA6.Le y3.1 (zA6.set (zA6.new (zA6.new (zA6.new σ (zA5.cells [AV.nilslice] 26 1 false)) (zA5.map [])) (zA5.cells [AV.nilmap] 273 1 false)) (((zA6.next σ)+1)+1) (zA5.cells (zAF (OE.cs a0) 0 [AV.map ((zA6.next σ)+1)]) 273 1 (OE.g a0))))/\(∀ σ'4:zA6,((R io1 σ'4)->(∃ a5:OE,zA6.objs σ'4 io1=zA5.cells (OE.cs a5) 26 1 (OE.g a5)/\(0:Nat)<List.length (OE.cs a5)/\((List.getD (OE.cs a5) 0 AV.undef=AV.nilslice/\Q AV.nilslice σ'4)\/∃ x6:RS,List.getD (OE.cs a5) 0 AV.undef=AV.rslice (RS.id x6) 0 (RS.n x6)/\Q (AV.rslice (RS.id x6) 0 (RS.n x6)) σ'4))))):=by kernel_rfl
end Go.V
set_option linter.unusedSimpArgs false
set_option linter.unusedSectionVars false
namespace Go.V
open Go Go.Proofs

def zPZ (es:List (AV×AV)):Prop:=∀ e∈es,∃ (a:Int) (b:Bool),e=(iZ a,AV.bool b)
theorem zQ0 (a b:Int):aeq Tryz.prog 3 (iZ a) (iZ b)=some (decide (a=b)):=by kernel_rfl
theorem zQ1 (n:Int):∀ (es:List (AV×AV)) (i:Nat),zPZ es->∃ r,zAW Tryz.prog 3 (iZ n) es i=some r/\∀ x,r=some x->∃ b:Bool,x.2 = .bool b
 | [],i,_=>⟨none,rfl,fun x hx=>by cases hx⟩
 | e :: es,i,h=>by
  obtain ⟨a,b,rfl⟩:=h _ List.mem_cons_self
  unfold zAW
  rw [zQ0]
  by_cases hn:n=a
  ·rw [decide_eq_true hn]
   exact ⟨_,rfl,fun x hx=>by cases hx; exact ⟨b,rfl⟩⟩
  ·rw [decide_eq_false hn]
   exact zQ1 n es (i+1) fun e he=>h e (List.mem_cons_of_mem _ he)
theorem zQ2:zAY Tryz.prog 273=some (3,4):=by kernel_rfl
theorem zQ3 (n:Int):zAX Tryz.prog 3 (iZ n)=true:=by kernel_rfl
theorem zer4:∃ z,zAB Tryz.prog 4=some z/\av z = .bool false:=by
 refine ⟨(zAB Tryz.prog 4).getD (.bool true),?_,?_⟩ <;> kernel_rfl
theorem zQ4 {n:Int} {es:List (AV×AV)} (h:zPZ es):∃ b:Bool,zI9 Tryz.prog 273 es (iZ n) false (.bool b):=by
 obtain ⟨r,hr,hb⟩:=zQ1 n es 0 h
 unfold zI9 zI8
 rw [zQ2]
 dsimp only
 rw [if_pos (zQ3 n),hr]
 cases r with
 | none =>
  obtain ⟨z,h1,h2⟩:=zer4
  dsimp only
  rw [h1]
  exact ⟨false,by dsimp only; rw [h2]; rfl⟩
 | some x =>
  obtain ⟨b,hx⟩:=hb x rfl
  obtain ⟨j,v⟩:=x
  subst hx
  exact ⟨b,rfl⟩
theorem zQ5 {n:Int}:zI9 Tryz.prog 273 [] (iZ n) false (.bool false):=by
 unfold zI9 zI8
 rw [zQ2]
 dsimp only
 rw [if_pos (zQ3 n)]
 obtain ⟨z,h1,h2⟩:=zer4
 unfold zAW
 dsimp only
 rw [h1]
 dsimp only
 rw [h2]; rfl
theorem mset_int {n:Int} {b:Bool} {es:List (AV×AV)} (h:zPZ es):∃ es',MSet Tryz.prog 273 es (iZ n) (.bool b) es'/\zPZ es':=by
 obtain ⟨r,hr,hb⟩:=zQ1 n es 0 h
 unfold MSet mset
 rw [zQ2]
 dsimp only
 rw [if_pos (zQ3 n),hr]
 refine ⟨_,rfl,?_⟩
 intro e he
 unfold zB5 at he
 split at he
 ·rcases List.mem_or_eq_of_mem_set he with h1 | h1
  ·exact h e h1
  ·exact ⟨n,b,h1⟩
 ·rcases List.mem_append.1 he with h1 | h1
  ·exact h e h1
  ·exact ⟨n,b,by simpa using h1⟩

inductive VR where
 | oc | mc | mp | ov | lp
 deriving DecidableEq
def OutV (c:zK6 VR) (v:AV) (es:List (AV×AV)) (acc:List T):Prop:=(v = .nilslice/\es=[]/\∀ x∈acc,x.k≠1) \/
 ∃ (ov n:Nat) (cs:List AV) (g:Bool),v = .rslice ov 0 n/\0<n/\n<=acc.length/\cs.length=n/\c .ov=some (ov,.cells cs 3 1 g)/\∃ x∈acc,x.k=1
def VS (io im mid:Nat) (L:Option (Nat×zA4)) (acc:List T) (σ:zA6):Prop:=∃ (c:zK6 VR) (v:AV) (es:List (AV×AV)) (g1 g2:Bool),
 At c σ/\c .oc=some (io,.cells [v] 26 1 g1)/\c .mc=some (im,.cells [.map mid] 273 1 g2)/\c .mp=some (mid,.map es)/\c .lp=L.map (fun x=>(x.1,.loop x.2))/\zPZ es/\OutV c v es acc

def F16 (io im:Nat) (l:List T) (m:Cap) (i b:Nat):List (Nat×TV):=[(3,.v (.ptr io 0)),(4,.v (.ptr im 0)),(9,.v (.slice 4 (tcellL l) m)),(10,.v (iZ ((tcellL l).length:Int))),(11,.v (iZ (i:Int))),(16,.v (.func (.func 207) [] [.ptr b 0]))]
def zQ6 (P:Program) (io im:Nat) (l:List T) (m:Cap) (i b:Nat):zA4:=⟨zJ8 P 148,(frm (F16 io im l m i b) []).low,[17],zPR (zPV P),zPS (zPV P),.ready,none,148⟩

section
variable {B:Nat} {w0:World} {G:Nat->AV}
theorem zQ7:zIP (EV B w0 G) (H0 (EV B w0 G)):=zJJ (zKM B w0 G) zJH

theorem zQ8 {io im mid yid:Nat} {l0:zA4} {acc:List T} {t:T} {σ:zA6} {Q:AV->zA6->Prop} (hr:l0.st = .ready) (hp0:l0.pend=none) (hb:acc.length<100000)
  (hS:VS io im mid (some (yid,l0)) acc σ) (hQ:∀ σ',VS io im mid (some (yid,l0)) (acc++[t]) σ'->Q (.bool true) σ') :
  wpC (EV B w0 G) (H0 (EV B w0 G)) nL (zHI 148) N148 (zPR (zPV Tryz.prog)) (zPT (EV B w0 G) (H0 (EV B w0 G)) nL (zHI 148) N148 yid (zPS (zPV Tryz.prog)) Q) (frm [(3,.v (.ptr io 0)),(4,.v (.ptr im 0)),(17,.v (.agg (tc t)))] []) σ:=by
 obtain ⟨c,v,es,g1,g2,h,ho,hm,hp,hl,hes,hout⟩:=hS
 have hl:c .lp=some (yid,.loop l0):=hl
 have hag:l0.busy.again=l0:=by
  obtain ⟨a1,a2,a3,a4,a5,a6,a7,a8⟩:=l0
  dsimp only at hr hp0
  subst hr hp0
  rfl
 refine (vc148y B w0 G io im yid t σ Q).mpr ⟨l0,h.obj hl,hr,?_⟩
 obtain ⟨c1,h1,e1⟩:∃ c1:zK6 VR,At c1 (σ.set yid (.loop l0.busy))/\c1=hup c .lp (some (yid,.loop l0.busy)):=⟨_,h.set hl _,rfl⟩
 have o1:c1 .oc=some (io,.cells [v] 26 1 g1):=by rw [e1,zK8 (by simp),ho]
 have m1:c1 .mc=some (im,.cells [.map mid] 273 1 g2):=by rw [e1,zK8 (by simp),hm]
 have p1:c1 .mp=some (mid,.map es):=by rw [e1,zK8 (by simp),hp]
 have l1:c1 .lp=some (yid,.loop l0.busy):=by rw [e1,zK7]
 have v1:c1 .ov=c .ov:=by rw [e1,zK8 (by simp)]
 -- nothing new
 have same:(t.k=1->∃ x∈acc,x.k=1)->∃ l6:zA4,(σ.set yid (.loop l0.busy)).objs yid = .loop l6/\Q (.bool true) ((σ.set yid (.loop l0.busy)).set yid (.loop l6.again)):=fun hk=>by
  refine ⟨l0.busy,h1.obj l1,?_⟩
  rw [hag]
  have h2:=h1.set l1 (.loop l0)
  refine hQ _ ⟨_,v,es,g1,g2,h2,by rw [zK8 (by simp),o1],by rw [zK8 (by simp),m1],by rw [zK8 (by simp),p1],by rw [zK7]; rfl,hes,?_⟩
  rcases hout with ⟨k1,k2,k3⟩ | ⟨ov,n,cs,g,k1,k2,k3,k4,k5,k6⟩
  ·refine .inl ⟨k1,k2,fun x hx => ?_⟩
   rcases List.mem_append.1 hx with hx | hx
   ·exact k3 x hx
   ·obtain rfl:x=t:=by simpa using hx
    intro e
    obtain ⟨y,hy,hy1⟩:=hk e
    exact k3 y hy hy1
  ·refine .inr ⟨ov,n,cs,g,k1,k2,by rw [List.length_append]; omega,k4,by rw [zK8 (by simp),v1]; exact k5,?_⟩
   obtain ⟨y,hy,hy1⟩:=k6
   exact ⟨y,List.mem_append_left _ hy,hy1⟩
 refine zE2 (fun hk => ?_) (fun hk=>same fun e=>by rw [e] at hk; simp at hk)
 have hk:t.k=1:=by simpa using hk
 have look:∃ b:Bool,zI9 Tryz.prog 273 es (iZ t.n) false (.bool b)/\(b=true->∃ x∈acc,x.k=1):=by
  rcases hout with ⟨k1,k2,k3⟩ | ⟨ov,n,cs,g,k1,k2,k3,k4,k5,k6⟩
  ·subst k2
   exact ⟨false,zQ5,fun h=>by cases h⟩
  ·obtain ⟨b,hb⟩:=zQ4 (n:=t.n) hes
   exact ⟨b,hb,fun _=>k6⟩
 obtain ⟨b,hb1,hb2⟩:=look
 refine ⟨⟨[.map mid],g2⟩,h1.obj m1,Nat.zero_lt_one,mid,rfl,es,h1.obj p1,_,hb1,b,rfl,zE2 (fun hbf => ?_) (fun hbt=>same fun _=>hb2 (by simpa using hbt))⟩
 obtain ⟨es',hset,hes'⟩:=mset_int (n:=t.n) (b:=true) hes
 obtain ⟨c2,h2,e2⟩:∃ c2:zK6 VR,At c2 ((σ.set yid (.loop l0.busy)).set mid (.map es'))/\c2=hup c1 .mp (some (mid,.map es')):=⟨_,h1.set p1 _,rfl⟩
 have o2:c2 .oc=some (io,.cells [v] 26 1 g1):=by rw [e2,zK8 (by simp),o1]
 have m2:c2 .mc=some (im,.cells [.map mid] 273 1 g2):=by rw [e2,zK8 (by simp),m1]
 have p2:c2 .mp=some (mid,.map es'):=by rw [e2,zK7]
 have l2:c2 .lp=some (yid,.loop l0.busy):=by rw [e2,zK8 (by simp),l1]
 have v2:c2 .ov=c .ov:=by rw [e2,zK8 (by simp),v1]
 refine ⟨⟨[.map mid],g2⟩,h1.obj m1,Nat.zero_lt_one,mid,rfl,es,h1.obj p1,es',hset,⟨[v],g1⟩,h2.obj o2,Nat.zero_lt_one,?_⟩
 -- the list grows
 have done:∀ (c3:zK6 VR) (σ3:zA6) (n:Nat) (cs:List AV) (g:Bool) (ov:Nat),At c3 σ3->c3 .oc=some (io,.cells [v] 26 1 g1)->c3 .mc=some (im,.cells [.map mid] 273 1 g2)->c3 .mp=some (mid,.map es')->c3 .lp=some (yid,.loop l0.busy) ->
   c3 .ov=some (ov,.cells cs 3 1 g)->cs.length=n->0<n->n<=acc.length+1 ->
   ∃ a11:OE,σ3.objs io = .cells a11.cs 26 1 a11.g/\1<=a11.cs.length/\∃ l12:zA4,(σ3.set io (.cells (zAF a11.cs 0 [.rslice ov 0 n]) 26 1 a11.g)).objs yid = .loop l12 /\
    Q (.bool true) ((σ3.set io (.cells (zAF a11.cs 0 [.rslice ov 0 n]) 26 1 a11.g)).set yid (.loop l12.again)):=by
  intro c3 σ3 n cs g ov h3 o3 m3 p3 l3 v3 hcs hn hle
  refine ⟨⟨[v],g1⟩,h3.obj o3,Nat.le_refl _,?_⟩
  have h4:=h3.set o3 (.cells (zAF [v] 0 [.rslice ov 0 n]) 26 1 g1)
  have l4:hup c3 .oc (some (io,.cells (zAF [v] 0 [.rslice ov 0 n]) 26 1 g1)) .lp=some (yid,.loop l0.busy):=by rw [zK8 (by simp),l3]
  refine ⟨l0.busy,h4.obj l4,?_⟩
  rw [hag]
  have h5:=h4.set l4 (.loop l0)
  refine hQ _ ⟨_,.rslice ov 0 n,es',g1,g2,h5,by rw [zK8 (by simp),zK7]; rfl,by rw [zK8 (by simp),zK8 (by simp),m3],by rw [zK8 (by simp),zK8 (by simp),p3],by rw [zK7]; rfl,hes',.inr ⟨ov,n,cs,g,rfl,hn,?_,hcs,?_,?_⟩⟩
  ·simp only [List.length_append,List.length_cons,List.length_nil]; omega
  ·rw [zK8 (by simp),zK8 (by simp),v3]
  ·exact ⟨t,by simp,hk⟩
 rcases hout with ⟨k1,k2,k3⟩ | ⟨ov,n,cs,g,k1,k2,k3,k4,k5,k6⟩
 ·refine .inl ⟨k1,⟨by omega,by omega⟩,?_⟩
  have h3:=h2.new .ov (.cells [iZ t.n] 3 1 true)
  have:=done _ _ 1 [iZ t.n] true σ.next h3 (by rw [zK8 (by simp),o2]) (by rw [zK8 (by simp),m2]) (by rw [zK8 (by simp),p2]) (by rw [zK8 (by simp),l2]) (by rw [zK7]; rfl) rfl (by omega) (by omega)
  exact this
 ·have v2':c2 .ov=some (ov,.cells cs 3 1 g):=by rw [v2,k5]
  refine .inr ⟨⟨ov,n⟩,k1,⟨cs,g⟩,h2.obj v2',⟨rfl,⟨by show (n+1)*8<=_; omega,by show n+1<=_; omega⟩,by show n*1<=cs.length; omega⟩,?_⟩
  have h3:=h2.grow v2' (.cells (cs.take (n*1)++[iZ t.n]) 3 1 true)
  have:=done _ _ (n+1) (cs.take (n*1)++[iZ t.n]) true σ.next h3 (by rw [zK8 (by simp),o2]) (by rw [zK8 (by simp),m2]) (by rw [zK8 (by simp),p2]) (by rw [zK8 (by simp),l2]) (by rw [zK7]; rfl)
   (by rw [List.length_append,List.length_take]; simp; omega) (by omega) (by omega)
  exact this
end
end Go.V
namespace Go.V
open Go Go.Proofs

def C148:zJC:=fun args σ K=>∃ (l:List T) (m:Cap),args=[.slice 4 (tcellL l) m]/\(nodesTL l).length<=100000 /\
 ∀ σ':zA6,((∀ x∈nodesTL l,x.k≠1)->K .nilslice σ')/\∀ ov n:Nat,0<n->(∃ x∈nodesTL l,x.k=1)->K (.rslice ov 0 n) σ'

theorem VS.off {io im mid yid:Nat} {l0:zA4} {acc:List T} {σ:zA6} (h:VS io im mid (some (yid,l0)) acc σ):VS io im mid none acc (σ.set yid .dead):=by
 obtain ⟨c,v,es,g1,g2,h,ho,hm,hp,hl,hes,hout⟩:=h
 have hl:c .lp=some (yid,.loop l0):=hl
 refine ⟨_,v,es,g1,g2,h.kill hl,by rw [zK8 (by simp),ho],by rw [zK8 (by simp),hm],by rw [zK8 (by simp),hp],by rw [zK7]; rfl,hes,?_⟩
 rcases hout with k | ⟨ov,n,cs,g,k1,k2,k3,k4,k5,k6⟩
 ·exact .inl k
 ·exact .inr ⟨ov,n,cs,g,k1,k2,k3,k4,by rw [zK8 (by simp),k5],k6⟩
theorem VS.on {io im mid:Nat} {l0:zA4} {acc:List T} {σ:zA6} (h:VS io im mid none acc σ):VS io im mid (some (σ.next,l0)) acc (σ.new (.loop l0)):=by
 obtain ⟨c,v,es,g1,g2,h,ho,hm,hp,hl,hes,hout⟩:=h
 refine ⟨_,v,es,g1,g2,h.new .lp (.loop l0),by rw [zK8 (by simp),ho],by rw [zK8 (by simp),hm],by rw [zK8 (by simp),hp],by rw [zK7]; rfl,hes,?_⟩
 rcases hout with k | ⟨ov,n,cs,g,k1,k2,k3,k4,k5,k6⟩
 ·exact .inl k
 ·exact .inr ⟨ov,n,cs,g,k1,k2,k3,k4,by rw [zK8 (by simp),k5],k6⟩
theorem At.skip' {R:Type} {c:zK6 R} {σ:zA6} (h:At c σ) (o:zA5):At c (σ.new o) where
 at_ r id x hr:=by
  have:=h.at_ r id x hr
  refine ⟨Nat.lt_succ_of_lt this.1,?_⟩
  show (if id=σ.next then o else σ.objs id)=x
  rw [if_neg (by omega)]; exact this.2
 inj:=h.inj
theorem VS.skip {io im mid:Nat} {L:Option (Nat×zA4)} {acc:List T} {σ:zA6} (h:VS io im mid L acc σ) (o:zA5):VS io im mid L acc (σ.new o):=by
 obtain ⟨c,v,es,g1,g2,h,k⟩:=h
 exact ⟨c,v,es,g1,g2,h.skip' o,k⟩

section
variable {B:Nat} {w0:World} {G:Nat->AV}
theorem y148_ok {io im mid yid:Nat} {l:List T} {m:Cap} {i b:Nat}:∀ id args σ Q,YTn yid (VS io im mid (some (yid,zQ6 Tryz.prog io im l m i b))) id args σ Q->zDZ (EV B w0 G) id args σ Q:=by
 rintro id args σ Q ⟨t,acc,⟨rfl,rfl⟩,⟨hb,hS⟩,hQ⟩
 have hob:σ.objs id = .loop (zQ6 Tryz.prog io im l m i b):=by
  obtain ⟨c,v,es,g1,g2,h,ho,hm,hp,hl,_⟩:=hS
  exact h.obj (r:=.lp) hl
 refine zGM hob rfl (by kernel_rfl) ?_
 have hw:=zQ8 (B:=B) (w0:=w0) (G:=G) (Q:=Q) rfl rfl hb hS hQ
 refine .pre_wk (a':=frm [(3,.v (.ptr io 0)),(4,.v (.ptr im 0)),(17,.v (.agg (tc t)))] []) (σ':=σ) (zJM (F:=[(3,.v (.ptr io 0)),(4,.v (.ptr im 0)),(17,.v (.agg (tc t)))]) (FL:=[]) (R:=True) ⟨rfl,rfl,rfl,trivial⟩).1 (.refl _) ?_
 refine (zJ4 zQ7 (zKM B w0 G) _ _ _ _ (fun l _ _ Q a σ k=>k.elim) (by kernel_rfl) hw).mono fun e a σ' k => ?_
 cases e with
 | normal =>
  obtain ⟨l1,h1,h2,h3⟩:=k
  show match zGD σ' id with | none=>False | some l=>l.st = .ready/\AWp _ _ _ _ _ a (σ'.set id (.loop { l with st:=.busy }))
  have e1:zGD σ' id=some l1:=by unfold zGD; rw [h1]
  rw [e1]
  refine ⟨h2,(zJ4 zQ7 (zKM B w0 G) _ _ _ _ (fun l _ _ Q a σ k=>k.elim) (by kernel_rfl) h3).mono fun e a2 σ2 k2 => ?_⟩
  cases e with
  | normal =>
   obtain ⟨l2,h4,h5⟩:=k2
   have e2:zGD σ2 id=some l2:=by unfold zGD; rw [h4]
   unfold zGF
   rw [e2]
   exact h5
  | _=>exact k2.elim
 | _=>exact k.elim

theorem rf148_ok {io im:Nat} {l:List T} {m:Cap} (hlen:(nodesTL l).length<=100000) (Q:zDW) (a:zDN) (σ:zA6)
  (h:T148r io im l m (fun y b=>∃ (mid:Nat) (hi:y.i<l.length),b<y.σ.next/\y.σ.objs b = .cells (tc l[y.i]) 37 4 false/\VS io im mid none (nodesTL (l.take y.i)) y.σ) (fun i σ'=>∃ mid,VS io im mid none (nodesTL (l.take (i+1))) σ')
   (.rangeFunc (.tmp 16) #[17] (zPR (zPV Tryz.prog)) (zPS (zPV Tryz.prog))) Q a σ) :
  AWp (EV B w0 G) none (zJ8 Tryz.prog 148) (.rangeFunc (.tmp 16) #[17] (zPR (zPV Tryz.prog)) (zPS (zPV Tryz.prog))) Q a σ:=by
 obtain ⟨y,b,⟨mid,hi,hlt,hbx,hS⟩,hat,hR⟩:=h
 refine .post_wk (.pre_wk (zJM hat).1 (zJM hat).2 ?_)
 refine zGQ (fi:=207) (first:=[]) (cap:=[.ptr b 0]) (own:=148) rfl (by kernel_rfl) trivial ?_
 have hle:=zPM l (y.i+1)
 rw [zPL hi,List.length_append] at hle
 have hob:(y.σ.new (.loop (zQ6 Tryz.prog io im l m y.i b))).objs b = .cells (tc l[y.i]) 37 4 false:=by
  show (if b=y.σ.next then _ else y.σ.objs b)=_
  rw [if_neg (by omega)]; exact hbx
 refine zPQ (y148_ok (io:=io) (im:=im) (mid:=mid) (yid:=y.σ.next) (l:=l) (m:=m) (i:=y.i) (b:=b)) _ _ _ ⟨b,l[y.i],false,nodesTL (l.take y.i),rfl,⟨hob,by omega,hS.on⟩,fun σ' hS' => ?_⟩
 have hl1:zGD σ' y.σ.next=some (zQ6 Tryz.prog io im l m y.i b):=by
  obtain ⟨c,v,es,g1,g2,h,ho,hm,hp,hl,_⟩:=hS'
  unfold zGD
  rw [h.obj (r:=.lp) hl]
 unfold zGN
 rw [hl1]
 refine ⟨(by intro e; cases e),_,_,?_,.refl _,hR _ ⟨mid,by rw [zPL hi]; exact hS'.off⟩⟩
 exact (zJM (F:=[(3,.v (.ptr io 0)),(4,.v (.ptr im 0)),(9,.v (.slice 4 (tcellL l) m)),(10,.v (iZ ((tcellL l).length:Int))),(11,.v (iZ (y.i:Int)))]) (FL:=[]) (R:=True) ⟨rfl,rfl,rfl,rfl,rfl,trivial⟩).1

theorem c148_ok:zJD (EV B w0 G) 148 C148:=by
 rintro args σ Q ⟨l,m,rfl,hlen,hQ⟩
 have hll:=zPO l
 refine zKF (cuts:=[]) (zKM B w0 G) zQ7 (fun lp hl _ Q a' σ kk => ?_) ((vc148 B w0 G l m (fun io im y=>∃ mid,y.i<=l.length/\VS io im mid none (nodesTL (l.take y.i)) y.σ) (fun io σ'=>∃ im mid,VS io im mid none (nodesTL l) σ') σ Q).mpr ?_)
 ·change lp∈zKE Tryz.prog [] 148 at hl
  rw [zPU] at hl
  simp only [List.mem_cons,List.not_mem_nil,or_false] at hl
  subst hl
  obtain ⟨io,im,y0,hI0,hat,hR⟩:=kk
  refine zK5 (zPY io im l m (fun y=>∃ mid,y.i<=l.length/\VS io im mid none (nodesTL (l.take y.i)) y.σ)) (x0:=y0) (fun y hI => ?_) (fun y hI e a' σ hne kk => ?_) hI0 hat
  ·obtain ⟨mid,hi,hS⟩:∃ mid,y.i<=l.length/\VS io im mid none (nodesTL (l.take y.i)) y.σ:=hI
   show AWp _ _ _ _ _ (frm [(3,.v (.ptr io 0)),(4,.v (.ptr im 0)),(9,.v (.slice 4 (tcellL l) m)),(10,.v (iZ ((tcellL l).length:Int))),(11,.v (iZ (y.i:Int)))] []) y.σ
   refine zKC (cuts:=[]) zQ7 (zKM B w0 G) _ _ _ _ (fun p hp hc Q a σ k => ?_) (by kernel_rfl) ((vc148l B w0 G io im l m (fun y b=>∃ (mid:Nat) (hi:y.i<l.length),b<y.σ.next/\y.σ.objs b = .cells (tc l[y.i]) 37 4 false/\VS io im mid none (nodesTL (l.take y.i)) y.σ)
    (fun i σ'=>∃ mid,VS io im mid none (nodesTL (l.take (i+1))) σ') _ y).mpr (zE2 (fun h => ?_) (fun h=>⟨fun h2 => ?_,rfl,.refl _⟩)))
   ·have hp:p∈zKI [] (zKG Tryz.prog [] 148 0):=hp
    rw [zPW] at hp
    simp only [List.mem_cons,List.not_mem_nil,or_false] at hp
    subst hp
    exact rf148_ok hlen Q a σ k
   ·have h:=of_decide_eq_true h
    have hk:y.i<l.length:=by rw [zMH] at h; omega
    have w1:IntKind.wrap .i64 ((y.i:Int)+1)=((y.i+1:Nat):Int):=by rw [zN8 (by omega) (by omega)]; omega
    refine ⟨⟨by omega,h⟩,l[y.i],by rw [Int.toNat_natCast]; exact zNA hk,⟨y.σ.new (.cells (tc l[y.i]) 37 4 false),y.i⟩,y.σ.next,⟨mid,hk,Nat.lt_succ_self _,if_pos rfl,hS.skip _⟩,⟨rfl,rfl,rfl,rfl,rfl,rfl,.refl _⟩,
     fun σ' hR'=>⟨⟨σ',y.i+1⟩,⟨?_,?_⟩,rfl,rfl,rfl,rfl,?_,.refl _⟩⟩
    ·obtain ⟨mid',hS'⟩:=hR'
     exact ⟨mid',hk,hS'⟩
    ·show l.length - (y.i+1)<l.length - y.i
     omega
    ·show TV.v (iZ (IntKind.wrap .i64 ((y.i:Int)+1)))=TV.v (iZ ((y.i+1:Nat):Int))
     rw [w1]
   ·have h:=of_decide_eq_false h
    rw [zMH] at h; omega
  ·obtain ⟨mid,hi,hS⟩:∃ mid,y.i<=l.length/\VS io im mid none (nodesTL (l.take y.i)) y.σ:=hI
   cases e with
   | exit j =>
    match j,kk with
    | 0,kk =>
     have hk:¬ y.i<l.length:=kk.1
     rw [show y.i=l.length by omega,List.take_length] at hS
     exact ⟨_,_,(zJM kk.2).1,(zJM kk.2).2,hR _ ⟨im,mid,hS⟩⟩
   | normal=>exact absurd rfl hne
   | _=>exact kk.elim
 ·obtain ⟨c3,h3,o3,p3,m3,q3⟩:∃ c3:zK6 VR,At c3 (((σ.new (.cells [.nilslice] 26 1 false)).new (.map [])).new (.cells [.nilmap] 273 1 false))/\c3 .oc=some (σ.next,.cells [.nilslice] 26 1 false)/\c3 .mp=some (σ.next+1,.map []) /\
    c3 .mc=some (σ.next+1+1,.cells [.nilmap] 273 1 false)/\c3 .lp=none:=by
   have h0:At (fun _:VR=>(none:Option (Nat×zA5))) σ:=⟨fun r id o h=>(by cases h),fun r s id o o' h=>(by cases h)⟩
   have h1:=h0.new .oc (.cells [.nilslice] 26 1 false)
   have h2:=h1.new .mp (.map [])
   have h3:=h2.new .mc (.cells [.nilmap] 273 1 false)
   exact ⟨_,h3,by rw [zK8 (by simp),zK8 (by simp),zK7],by rw [zK8 (by simp),zK7]; rfl,by rw [zK7]; rfl,by rw [zK8 (by simp),zK8 (by simp),zK8 (by simp)]⟩
  have h4:=h3.set m3 (.cells [.map (σ.next+1)] 273 1 false)
  refine ⟨⟨[.nilmap],false⟩,h3.obj m3,Nat.le_refl _,σ.next,σ.next+1+1,⟨_,0⟩,⟨σ.next+1,Nat.zero_le _,_,.nilslice,[],false,false,h4,by rw [zK8 (by simp),o3],by rw [zK7],by rw [zK8 (by simp),p3],by rw [zK8 (by simp),q3]; rfl,fun e he=>(by cases he),.inl ⟨rfl,rfl,fun x hx=>by simp [nodesTL] at hx⟩⟩,
   ⟨rfl,rfl,rfl,rfl,rfl,.refl _⟩,fun σ' hR => ?_⟩
  obtain ⟨im,mid,c,v,es,g1,g2,h,ho,hm,hp,hl,hes,hout⟩:=hR
  refine ⟨⟨[v],g1⟩,h.obj ho,Nat.zero_lt_one,?_⟩
  rcases hout with ⟨k1,k2,k3⟩ | ⟨ov,n,cs,g,k1,k2,k3,k4,k5,k6⟩
  ·exact .inl ⟨k1,(hQ σ').1 k3⟩
  ·exact .inr ⟨⟨ov,n⟩,k1,(hQ σ').2 ov n k2 k6⟩
end
end Go.V
