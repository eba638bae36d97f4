/- A part of the proof of the statement S8 (texts brought together and shortened by a program of this work). -/
import Derived.Test.YtgnjidopnplbbaaGreatDoorQ9
import Derived.Test.YtgnjidopnplbbaaGreatDoorQ12
import Derived.Test.YtgnjidopnplbbaaGreatDoorQ7
import Derived.Test.YtgnjidopnplbbaaGreatDoorQ14
import Derived.Test.YtgnjidopnplbbaaGreatDoorQ18
import Derived.Test.YtgnjidopnplbbaaGreatDoorQ20
set_option maxRecDepth 1000000
set_option linter.unusedVariables false
set_option linter.unusedSimpArgs false
namespace Go.V
open Go Go.Proofs

abbrev Sym:=ByteArray×Int
def opsL:List Sym:=[(⟨⟨[118,101,99,116,111,114,95,110,101,119]⟩⟩,2),(⟨⟨[118,101,99,116,111,114,95,103,101,116]⟩⟩,4),(⟨⟨[118,101,99,116,111,114,95,115,101,116]⟩⟩,4),(⟨⟨[118,101,99,116,111,114,95,115,105,122,101]⟩⟩,3),
 (⟨⟨[115,116,114,105,110,103,95,110,101,119]⟩⟩,2),(⟨⟨[115,116,114,105,110,103,95,103,101,116]⟩⟩,4),(⟨⟨[115,116,114,105,110,103,95,115,101,116]⟩⟩,4),(⟨⟨[115,116,114,105,110,103,95,115,105,122,101]⟩⟩,3),(⟨⟨[115,116,114,105,110,103,95,106,111,105,110]⟩⟩,3)]
def zR7:List Sym:=[(⟨⟨[116,114,117,101]⟩⟩,0),(⟨⟨[61]⟩⟩,2),(⟨⟨[58,61]⟩⟩,2),(⟨⟨[64]⟩⟩,2),(⟨⟨[58,45]⟩⟩,2),(⟨⟨[58,45]⟩⟩,1),(⟨⟨[44]⟩⟩,2),(⟨⟨[124]⟩⟩,2),(⟨⟨[111,116,104,101,114,119,105,115,101]⟩⟩,0),(⟨⟨[97,108,116,101,114,110,97,116,105,118,101,108,121]⟩⟩,0)]
def zR8:ByteArray:=⟨⟨[116,114,117,101]⟩⟩
def bEq:ByteArray:=⟨⟨[61]⟩⟩
def bIs:ByteArray:=⟨⟨[58,61]⟩⟩
def bAt:ByteArray:=⟨⟨[64]⟩⟩
def zR9 (l:List Sym) (s:ByteArray) (n:Int):Bool:=l.any fun x=>zAI s x.1&&decide (n=x.2)
def resS (s:ByteArray) (n:Int):Bool:=zR9 opsL s n || zR9 zR7 s n
def isF (t:T) (s:ByteArray) (n:Int):Bool:=decide (t.k=5)&&(zAI t.s s&&decide ((t.l.length:Int)=n))
def isA (t:T) (s:ByteArray):Bool:=decide (t.k=3)&&zAI t.s s
def zRA (t:T):Int :=
 if (decide (t.k=3) || decide (t.k=5))=false then 0
 else if isA t zR8=true then 2
 else if isF t bEq 2=true then 3
 else if isF t bIs 2=true then 4
 else if zR9 opsL t.s t.l.length=true then 5
 else if zR9 zR7 t.s t.l.length=true then 0
 else 1
def Tz:T:=.mk 0 0 ⟨⟨[]⟩⟩ []
def zRB (t:T) (p:Int):Int×Int×T:=if zRA t=0 then (0,0,Tz) else (zRA t,p,t)
def zRC (t:T):Int×Int×T :=
 if isF t bAt 2=true then (if (t.l.getD 1 Tz).k≠2\/(t.l.getD 1 Tz).n<0\/(t.l.getD 1 Tz).n > 15 then (0,0,Tz) else zRB (t.l.getD 0 Tz) (t.l.getD 1 Tz).n)
 else zRB t 0

theorem zRD {a b:ByteArray}:zAI a b=true↔a=b:=by
 unfold zAI
 rw [beq_iff_eq]
 constructor
 ·intro h
  obtain ⟨⟨x⟩⟩:=a
  obtain ⟨⟨y⟩⟩:=b
  cases h; rfl
 ·rintro rfl; rfl
def zRE (f:Int->AV) (l:List Sym):List (AV×AV):=l.map fun x=>(.str x.1,f x.2)
def zRF (l:List Sym) (s:ByteArray):Option Int:=(l.find? fun x=>zAI s x.1).map (·.2)
theorem zRG (f:Int->AV) (s:ByteArray):∀ (l:List Sym) (i:Nat),∃ j:Nat,zAW Tryz.prog 9 (.str s) (zRE f l) i=some ((zRF l s).map fun n=>(j,f n))
 | [],i=>⟨0,rfl⟩
 | x :: l,i=>by
  have e:aeq Tryz.prog 9 (.str s) (.str x.1)=some (zAI s x.1):=by kernel_rfl
  unfold zRE
  rw [List.map_cons,zAW]
  dsimp only
  rw [e]
  unfold zRF
  cases h:zAI s x.1 with
  | true=>exact ⟨i,by rw [List.find?_cons,h]; rfl⟩
  | false =>
   obtain ⟨j,hj⟩:=zRG f s l (i+1)
   exact ⟨j,by rw [List.find?_cons,h]; exact hj⟩
theorem zRH (t:Nat) (e:Nat) (z:AV) (f:Int->AV) (l:List Sym) (s:ByteArray) (ok:Bool) (v:AV) (h1:zAY Tryz.prog t=some (9,e)) (h2:∃ z',zAB Tryz.prog e=some z'/\av z'=z)
  (hv:v=match zRF l s with | some n=>(if ok then .tuple [f n,.bool true] else f n) | none=>(if ok then .tuple [z,.bool false] else z)):zI9 Tryz.prog t (zRE f l) (.str s) ok v:=by
 subst hv
 obtain ⟨z',h2,h3⟩:=h2
 obtain ⟨j,hj⟩:=zRG f s l 0
 have e0:zAX Tryz.prog 9 (.str s)=true:=by kernel_rfl
 unfold zI9 zI8
 rw [h1]
 dsimp only
 rw [if_pos e0,hj]
 cases zRF l s with
 | some n=>rfl
 | none =>
  dsimp only [Option.map]
  rw [h2]
  dsimp only
  rw [h3]
theorem zRI {l:List Sym} (hl:(l.map (·.1)).Nodup) (s:ByteArray) (n:Int):zR9 l s n=(match zRF l s with | some m=>decide (m=n) | none=>false):=by
 induction l with
 | nil=>rfl
 | cons x l ih =>
  rw [List.map_cons,List.nodup_cons] at hl
  unfold zR9 zRF
  rw [List.any_cons,List.find?_cons]
  cases h:zAI s x.1 with
  | true =>
   have hs:=zRD.1 h
   have:(l.any fun x=>zAI s x.1&&decide (n=x.2))=false:=by
    rw [List.any_eq_false]
    intro y hy hy2
    rw [Bool.and_eq_true] at hy2
    have:=zRD.1 hy2.1
    exact hl.1 (List.mem_map.2 ⟨y,hy,by rw [<-this,hs]⟩)
   rw [this]
   simp [eq_comm]
  | false =>
   have:=ih hl.2
   unfold zR9 zRF at this
   rw [Bool.false_and,Bool.false_or,this]

def zRJ (s:ByteArray) (n:Int):AV:=.agg [.str s,iZ n]
theorem zRK:zKX=zR7.map fun x=>(zRJ x.1 x.2,AV.bool true):=rfl
theorem zRL (s s':ByteArray) (n n':Int):aeq Tryz.prog 240 (zRJ s n) (zRJ s' n')=some (zAI s s'&&((n==n')&&true)):=by kernel_rfl
theorem zRM (s:ByteArray) (n:Int):∀ l:List Sym,zB2 Tryz.prog 240 (zRJ s n) (l.map fun x=>(zRJ x.1 x.2,AV.bool true))=some ((l.filter fun x=>zAI s x.1&&decide (n=x.2)).map fun _=>AV.bool true)
 | []=>rfl
 | x :: l=>by
  rw [List.map_cons,zB2]
  dsimp only
  rw [zRL,zRM s n l,List.filter_cons]
  have:(zAI s x.1&&((n==x.2)&&true))=(zAI s x.1&&decide (n=x.2)):=by
   rw [Bool.and_true]; rfl
  rw [this]
  cases zAI s x.1&&decide (n=x.2) <;> rfl
theorem zRN {l:List Sym} (hl:l.Nodup) (s:ByteArray) (n:Int):(l.filter fun x=>zAI s x.1&&decide (n=x.2))=if zR9 l s n then [(s,n)] else []:=by
 induction l with
 | nil=>rfl
 | cons x l ih =>
  rw [List.nodup_cons] at hl
  unfold zR9
  rw [List.filter_cons,List.any_cons]
  cases h:zAI s x.1&&decide (n=x.2) with
  | true =>
   rw [Bool.and_eq_true,decide_eq_true_eq] at h
   have hx:x=(s,n):=by rw [zRD.1 h.1,h.2]
   have:(l.filter fun x=>zAI s x.1&&decide (n=x.2))=[]:=by
    rw [List.filter_eq_nil_iff]
    intro y hy hy2
    rw [Bool.and_eq_true,decide_eq_true_eq] at hy2
    have:y=(s,n):=by rw [zRD.1 hy2.1,hy2.2]
    exact hl.1 (by rw [hx,<-this]; exact hy)
   rw [if_pos rfl,this,hx,Bool.true_or]; rfl
  | false =>
   rw [Bool.false_or]
   exact ih hl.2
theorem zRO (s:ByteArray) (n:Int):zIA Tryz.prog 226 zKX (zRJ s n) false (.bool (zR9 zR7 s n)):=by
 have e0:zAX Tryz.prog 240 (zRJ s n)=true:=by kernel_rfl
 unfold zIA zB3
 rw [zL4]
 dsimp only
 rw [if_pos e0,zRK,zRM,zRN (by decide)]
 cases zR9 zR7 s n <;> rfl
end Go.V
namespace Go.V
open Go Go.Proofs
variable (B:Nat) (w0:World) (G:Nat->AV)
def C225 (cs:List (AV×AV)):zJC:=fun args σ K=>args=[]/\K (.map σ.next) (σ.new (.cmap cs))
def C224 (es:List (AV×AV)):zJC:=fun args σ K=>args=[]/\(σ=zJZ/\K (.map 0) (zJZ.new (.map es)))
def C217:zJC:=fun args σ K=>∃ (t:T) (s:ByteArray) (n:Int),args=[.agg (tc t),.str s,iZ n]/\K (.bool (isF t s n)) σ.untok
def C228:zJC:=fun args σ K=>∃ (t:T) (s:ByteArray),args=[.agg (tc t),.str s]/\K (.bool (isA t s)) σ.untok
def zRP (t:T):Bool:=decide (t.k=3) || decide (t.k=5)
def C220:zJC:=fun args σ K=>∃ (t:T),args=[.agg (tc t)]/\K (.tuple [zRJ t.s (t.l.length:Int),.bool (zRP t)]) σ.untok
def C218:zJC:=fun args σ K=>∃ (t:T),args=[.agg (tc t)]/\K (iZ (zRA t)) σ.untok
def C213:zJC:=fun args σ K=>∃ (s:ByteArray) (n:Int),args=[zRJ s n]/\K (.bool (resS s n)) σ.untok
theorem vc224 (Q:AV->zA6->Prop):(zKD [] (EV B w0 G) (H0 (EV B w0 G)) nL zHI zMV 224 [] zJZ Q) =
 (Q (AV.map 0) (zA6.set (zA6.set (zA6.set (zA6.set (zA6.set (zA6.set (zA6.set (zA6.set (zA6.set (zA6.new zJZ (zA5.map [])) 0 (zA5.map [Prod.mk (AV.str ⟨⟨[118,101,99,116,111,114,95,110,101,119]⟩⟩) (iZ 2)])) 0 (zA5.map [Prod.mk (AV.str ⟨⟨[118,101,99,116,111,114,95,110,101,119]⟩⟩) (iZ 2),Prod.mk (AV.str ⟨⟨[118,101,99,116,111,114,95,103,101,116]⟩⟩) (iZ 4)])) 0 (zA5.map [Prod.mk (AV.str ⟨⟨[118,101,99,116,111,114,95,110,101,119]⟩⟩) (iZ 2),Prod.mk (AV.str ⟨⟨[118,101,99,116,111,114,95,103,101,116]⟩⟩) (iZ 4),Prod.mk (AV.str ⟨⟨[118,101,99,116,111,114,95,115,101,116]⟩⟩) (iZ 4)])) 0 (zA5.map [Prod.mk (AV.str ⟨⟨[118,101,99,116,111,114,95,110,101,119]⟩⟩) (iZ 2),Prod.mk (AV.str ⟨⟨[118,101,99,116,111,114,95,103,101,116]⟩⟩) (iZ 4),Prod.mk (AV.str ⟨⟨[118,101,99,116,111,114,95,115,101,116]⟩⟩) (iZ 4),Prod.mk (AV.str ⟨⟨[118,101,99,116,111,114,95,115,105,122,101]⟩⟩) (iZ 3)])) 0 (zA5.map [Prod.mk (AV.str ⟨⟨[118,101,99,116,111,114,95,110,101,119]⟩⟩) (iZ 2),Prod.mk (AV.str ⟨⟨[118,101,99,116,111,114,95,103,101,116]⟩⟩) (iZ 4),Prod.mk (AV.str ⟨⟨[118,101,99,116,111,114,95,115,101,116]⟩⟩) (iZ 4),Prod.mk (AV.str ⟨⟨[118,101,99,116,111,114,95,115,105,122,101]⟩⟩) (iZ 3),Prod.mk (AV.str ⟨⟨[115,116,114,105,110,103,95,110,101,119]⟩⟩) (iZ 2)])) 0 (zA5.map [Prod.mk (AV.str ⟨⟨[118,101,99,116,111,114,95,110,101,119]⟩⟩) (iZ 2),Prod.mk (AV.str ⟨⟨[118,101,99,116,111,114,95,103,101,116]⟩⟩) (iZ 4),Prod.mk (AV.str ⟨⟨[118,101,99,116,111,114,95,115,101,116]⟩⟩) (iZ 4),Prod.mk (AV.str ⟨⟨[118,101,99,116,111,114,95,115,105,122,101]⟩⟩) (iZ 3),Prod.mk (AV.str ⟨⟨[115,116,114,105,110,103,95,110,101,119]⟩⟩) (iZ 2),Prod.mk (AV.str ⟨⟨[115,116,114,105,110,103,95,103,101,116]⟩⟩) (iZ 4)])) 0 (zA5.map [Prod.mk (AV.str ⟨⟨[118,101,99,116,111,114,95,110,101,119]⟩⟩) (iZ 2),Prod.mk (AV.str ⟨⟨[118,101,99,116,111,114,95,103,101,116]⟩⟩) (iZ 4),Prod.mk (AV.str ⟨⟨[118,101,99,116,111,114,95,115,101,116]⟩⟩) (iZ 4),Prod.mk (AV.str ⟨⟨[118,101,99,116,111,114,95,115,105,122,101]⟩⟩) (iZ 3),Prod.mk (AV.str ⟨⟨[115,116,114,105,110,103,95,110,101,119]⟩⟩) (iZ 2),Prod.mk (AV.str ⟨⟨[115,116,114,105,110,103,95,103,101,116]⟩⟩) (iZ 4),Prod.mk (AV.str ⟨⟨[115,116,114,105,110,103,95,115,101,116]⟩⟩) (iZ 4)])) 0 (zA5.map [Prod.mk (AV.str ⟨⟨[118,101,99,116,111,114,95,110,101,119]⟩⟩) (iZ 2),Prod.mk (AV.str ⟨⟨[118,101,99,116,111,114,95,103,101,116]⟩⟩) (iZ 4),Prod.mk (AV.str ⟨⟨[118,101,99,116,111,114,95,115,101,116]⟩⟩) (iZ 4),Prod.mk (AV.str ⟨⟨[118,101,99,116,111,114,95,115,105,122,101]⟩⟩) (iZ 3),Prod.mk (AV.str ⟨⟨[115,116,114,105,110,103,95,110,101,119]⟩⟩) (iZ 2),Prod.mk (AV.str ⟨⟨[115,116,114,105,110,103,95,103,101,116]⟩⟩) (iZ 4),Prod.mk (AV.str ⟨⟨[115,116,114,105,110,103,95,115,101,116]⟩⟩) (iZ 4),Prod.mk (AV.str ⟨⟨[115,116,114,105,110,103,95,115,105,122,101]⟩⟩) (iZ 3)])) 0 (zA5.map [Prod.mk (AV.str ⟨⟨[118,101,99,116,111,114,95,110,101,119]⟩⟩) (iZ 2),Prod.mk (AV.str ⟨⟨[118,101,99,116,111,114,95,103,101,116]⟩⟩) (iZ 4),Prod.mk (AV.str ⟨⟨[118,101,99,116,111,114,95,115,101,116]⟩⟩) (iZ 4),Prod.mk (AV.str ⟨⟨[118,101,99,116,111,114,95,115,105,122,101]⟩⟩) (iZ 3),Prod.mk (AV.str ⟨⟨[115,116,114,105,110,103,95,110,101,119]⟩⟩) (iZ 2),Prod.mk (AV.str ⟨⟨[115,116,114,105,110,103,95,103,101,116]⟩⟩) (iZ 4),Prod.mk (AV.str ⟨⟨[115,116,114,105,110,103,95,115,101,116]⟩⟩) (iZ 4),Prod.mk (AV.str ⟨⟨[115,116,114,105,110,103,95,115,105,122,101]⟩⟩) (iZ 3),Prod.mk (AV.str ⟨⟨[115,116,114,105,110,103,95,106,111,105,110]⟩⟩) (iZ 3)]))):=by kernel_rfl
theorem vc217 (t:T) (s:ByteArray) (n:Int) (Q:AV->zA6->Prop):(zKD [] (EV B w0 G) (H0 (EV B w0 G)) nL zHI zMV 217 [.agg (tc t),.str s,iZ n] zJZ Q) =
 (bcase (((T.k t):Int)==5)
 (bcase (zAI (T.s t) s)
 (Q (AV.bool ((List.length (tcellL (T.l t)):Int)==n)) zJZ)
 (Q (AV.bool false) zJZ))
 (Q (AV.bool false) zJZ)):=by kernel_rfl
theorem vc228 (t:T) (s:ByteArray) (Q:AV->zA6->Prop):(zKD [] (EV B w0 G) (H0 (EV B w0 G)) nL zHI zMV 228 [.agg (tc t),.str s] zJZ Q) =
 (bcase (((T.k t):Int)==3)
 (Q (AV.bool (zAI (T.s t) s)) zJZ)
 (Q (AV.bool false) zJZ)):=by kernel_rfl
theorem vc220 (t:T) (Q:AV->zA6->Prop):(zKD [] (EV B w0 G) (H0 (EV B w0 G)) nL zHI zMV 220 [.agg (tc t)] zJZ Q) =
 (bcase (((T.k t):Int)==3)
 (Rf (TV.v (AV.tuple []))/\Rf (TV.v (AV.tuple []))/\Rf (TV.v (AV.tuple []))/\Rf (TV.v (AV.bool true))/\Q (AV.tuple [AV.agg [AV.str (T.s t),iZ (List.length (tcellL (T.l t)):Int)],AV.bool true]) zJZ)
 (Rf (TV.l 1 0)/\Rf (TV.v (iZ (T.k t)))/\Rf (TV.v (AV.bool (((T.k t):Int)==5)))/\Rf (TV.v (AV.bool (((T.k t):Int)==5)))/\Q (AV.tuple [AV.agg [AV.str (T.s t),iZ (List.length (tcellL (T.l t)):Int)],AV.bool (((T.k t):Int)==5)]) zJZ)):=by kernel_rfl
def H218 (E:Env) (es cs:List (AV×AV)):zDY:=hnd E zHI zMU [(224,C224 es),(225,C225 cs),(217,C217),(228,C228),(220,C220)]
def zRQ:zIB:=zIB.ofAs (fun es:List (AV×AV)=>zA5.map es) (fun x:Int×Bool=>AV.tuple [iZ x.1,.bool x.2])
def hLookC:zIB:=zIB.ofAs (fun es:List (AV×AV)=>zA5.cmap es) (fun b:Bool=>AV.bool b)
def N218:zIE:=hAt [(2,3,zRQ),(13,2,hLookC)]
theorem vc218 (es cs:List (AV×AV)) (t:T) (Q:AV->zA6->Prop):(zKD [] (EV B w0 G) (H218 (EV B w0 G) es cs) nL zHI N218 218 [.agg (tc t)] zJZ Q) =
 (∃ t0:T,[AV.agg (tc t)]=[AV.agg (tc t0)]/\([]:List AV)=[]/\Ut zJZ=zJZ/\∃ a1:List (AV×AV),(zA5.map es)=zA5.map a1/\∃ a2:AV,zI9 Tryz.prog 301 a1 (AV.str (T.s t)) true a2/\∃ x3:Int×Bool,a2=AV.tuple [iZ (Prod.fst x3),AV.bool (Prod.snd x3)]/\Rf (TV.l 1 2)/\Rf (TV.v (AV.str (T.s t)))/\bcase (!(zRP t0))
 (Q (iZ 0) (zA6.new zJZ (zA5.map es)))
 (∃ t4:T,∃ s5:ByteArray,[AV.agg (tc t),AV.str ⟨⟨[116,114,117,101]⟩⟩]=[AV.agg (tc t4),AV.str s5]/\bcase (isA t4 s5)
 (Q (iZ 2) (Ut (zA6.new zJZ (zA5.map es))))
 (∃ t6:T,∃ s7:ByteArray,∃ n8:Int,[AV.agg (tc t),AV.str ⟨⟨[61]⟩⟩,iZ 2]=[AV.agg (tc t6),AV.str s7,iZ n8]/\bcase (isF t6 s7 n8)
 (Q (iZ 3) (Ut (Ut (zA6.new zJZ (zA5.map es)))))
 (∃ t9:T,∃ s10:ByteArray,∃ n11:Int,[AV.agg (tc t),AV.str ⟨⟨[58,61]⟩⟩,iZ 2]=[AV.agg (tc t9),AV.str s10,iZ n11]/\bcase (isF t9 s10 n11)
 (Q (iZ 4) (Ut (Ut (Ut (zA6.new zJZ (zA5.map es))))))
 (bcase (Prod.snd x3)
 (bcase (((Prod.fst x3):Int)==(List.length (tcellL (T.l t)):Int))
 (Q (iZ 5) (Ut (Ut (Ut (zA6.new zJZ (zA5.map es))))))
 (([]:List AV)=[]/\∃ a12:List (AV×AV),(zA5.cmap cs)=zA5.cmap a12/\∃ a13:AV,zIA Tryz.prog 226 a12 (AV.agg [AV.str (T.s t0),iZ (List.length (T.l t0):Int)]) false a13/\∃ x14:Bool,a13=AV.bool x14/\Rf (TV.v (AV.agg [AV.str (T.s t0),iZ (List.length (T.l t0):Int)]))/\bcase x14
 (Q (iZ 0) (zA6.new (Ut (Ut (Ut (zA6.new zJZ (zA5.map es))))) (zA5.cmap cs)))
 (Q (iZ 1) (zA6.new (Ut (Ut (Ut (zA6.new zJZ (zA5.map es))))) (zA5.cmap cs)))))
 (([]:List AV)=[]/\∃ a12:List (AV×AV),(zA5.cmap cs)=zA5.cmap a12/\∃ a13:AV,zIA Tryz.prog 226 a12 (AV.agg [AV.str (T.s t0),iZ (List.length (T.l t0):Int)]) false a13/\∃ x14:Bool,a13=AV.bool x14/\Rf (TV.v (AV.agg [AV.str (T.s t0),iZ (List.length (T.l t0):Int)]))/\bcase x14
 (Q (iZ 0) (zA6.new (Ut (Ut (Ut (zA6.new zJZ (zA5.map es))))) (zA5.cmap cs)))
 (Q (iZ 1) (zA6.new (Ut (Ut (Ut (zA6.new zJZ (zA5.map es))))) (zA5.cmap cs))))))))):=by kernel_rfl
def N213:zIE:=hAt [(1,3,zRQ),(2,10,hLookC)]
theorem vc213 (es cs:List (AV×AV)) (s:ByteArray) (n:Int) (Q:AV->zA6->Prop):(zKD [] (EV B w0 G) (H218 (EV B w0 G) es cs) nL zHI N213 213 [zRJ s n] zJZ Q) =
 (([]:List AV)=[]/\Rf zJZ/\∃ a0:List (AV×AV),(zA5.map es)=zA5.map a0/\∃ a1:AV,zI9 Tryz.prog 301 a0 (AV.str s) true a1/\∃ x2:Int×Bool,a1=AV.tuple [iZ (Prod.fst x2),AV.bool (Prod.snd x2)]/\Rf (TV.l 1 0)/\Rf (TV.v (AV.str s))/\bcase (Prod.snd x2)
 (bcase (((Prod.fst x2):Int)==n)
 (Rf (TV.v (AV.tuple []))/\Q (AV.bool true) (zA6.new zJZ (zA5.map es)))
 (([]:List AV)=[]/\∃ a3:List (AV×AV),(zA5.cmap cs)=zA5.cmap a3/\∃ a4:AV,zIA Tryz.prog 226 a3 (AV.agg [AV.str s,iZ n]) false a4/\∃ x5:Bool,a4=AV.bool x5/\Rf (TV.v (AV.agg [AV.str s,iZ n]))/\Q (AV.bool x5) (zA6.new (zA6.new zJZ (zA5.map es)) (zA5.cmap cs))))
 (([]:List AV)=[]/\∃ a3:List (AV×AV),(zA5.cmap cs)=zA5.cmap a3/\∃ a4:AV,zIA Tryz.prog 226 a3 (AV.agg [AV.str s,iZ n]) false a4/\∃ x5:Bool,a4=AV.bool x5/\Rf (TV.v (AV.agg [AV.str s,iZ n]))/\Q (AV.bool x5) (zA6.new (zA6.new zJZ (zA5.map es)) (zA5.cmap cs)))):=by kernel_rfl
end Go.V
set_option linter.unusedSectionVars false
namespace Go.V
open Go Go.Proofs

def opsT:List (AV×AV):=zRE (.int .i64) opsL
section
variable {B:Nat} {w0:World} {G:Nat->AV}
theorem c225_ok:zJD (EV B w0 G) 225 (C225 zKX):=by
 rintro args σ Q ⟨rfl,hQ⟩
 exact zLL hQ
theorem c224_ok:zJD (EV B w0 G) 224 (C224 opsT):=by
 rintro args σ Q ⟨rfl,rfl,hQ⟩
 refine zKF (cuts:=[]) (zKM B w0 G) zMZ (fun lp hl _ Q a' σ' kk=>kk.elim) ((vc224 B w0 G Q).mpr ?_)
 have e:∀ o o':zA5,zA6.set (zA6.new zJZ o) 0 o'=zA6.new zJZ o':=fun o o'=>zA6.new_set zJZ o o'
 rw [e,e,e,e,e,e,e,e,e]
 exact hQ
variable (hG:∀ i,zJV (G i))
include hG
theorem zRR:zJD (EV B w0 G) 217 C217:=by
 rintro args σ Q ⟨t,s,n,rfl,hQ⟩
 refine zN1 hG (fun v hv => ?_) (.bool _) (fun Q hQ => ?_) hQ
 ·simp only [List.mem_cons,List.not_mem_nil,or_false] at hv
  rcases hv with rfl | rfl | rfl
  ·exact zMK t
  ·exact .str _
  ·exact .int _ _
 refine zKF (cuts:=[]) (zKM B w0 G) zMZ (fun lp hl _ Q a' σ' kk=>kk.elim) ((vc217 B w0 G t s n Q).mpr ?_)
 have hQ:∀ σ',Q (.bool (decide (t.k=5)&&(zAI t.s s&&decide ((t.l.length:Int)=n)))) σ':=hQ
 rw [zMH]
 refine zE2 (fun h1=>zE2 (fun h2 => ?_) (fun h2 => ?_)) (fun h1 => ?_)
 ·rw [h2,show decide (t.k=5)=true from h1] at hQ; exact hQ _
 ·rw [h2,Bool.false_and,Bool.and_false] at hQ; exact hQ _
 ·rw [show decide (t.k=5)=false from h1] at hQ; exact hQ _
theorem zRS:zJD (EV B w0 G) 228 C228:=by
 rintro args σ Q ⟨t,s,rfl,hQ⟩
 refine zN1 hG (fun v hv => ?_) (.bool _) (fun Q hQ => ?_) hQ
 ·simp only [List.mem_cons,List.not_mem_nil,or_false] at hv
  rcases hv with rfl | rfl
  ·exact zMK t
  ·exact .str _
 refine zKF (cuts:=[]) (zKM B w0 G) zMZ (fun lp hl _ Q a' σ' kk=>kk.elim) ((vc228 B w0 G t s Q).mpr ?_)
 have hQ:∀ σ',Q (.bool (decide (t.k=3)&&zAI t.s s)) σ':=hQ
 refine zE2 (fun h1 => ?_) (fun h1 => ?_)
 ·rw [show decide (t.k=3)=true from h1] at hQ; exact hQ _
 ·rw [show decide (t.k=3)=false from h1] at hQ; exact hQ _
theorem zRT (s:ByteArray) (n:Int):zJV (zRJ s n):=.agg fun x hx=>by
 simp only [List.mem_cons,List.not_mem_nil,or_false] at hx
 rcases hx with rfl | rfl
 ·exact .str _
 ·exact .int _ _
theorem zRU:zJD (EV B w0 G) 220 C220:=by
 rintro args σ Q ⟨t,rfl,hQ⟩
 refine zN1 hG (fun v hv => ?_) (.tuple fun x hx => ?_) (fun Q hQ => ?_) hQ
 ·simp only [List.mem_cons,List.not_mem_nil,or_false] at hv
  subst hv; exact zMK t
 ·simp only [List.mem_cons,List.not_mem_nil,or_false] at hx
  rcases hx with rfl | rfl
  ·exact zRT hG _ _
  ·exact .bool _
 refine zKF (cuts:=[]) (zKM B w0 G) zMZ (fun lp hl _ Q a' σ' kk=>kk.elim) ((vc220 B w0 G t Q).mpr ?_)
 have hQ:∀ σ',Q (.tuple [zRJ t.s (t.l.length:Int),.bool (decide (t.k=3) || decide (t.k=5))]) σ':=hQ
 rw [zMH]
 refine zE2 (fun h1 => ?_) (fun h1 => ?_)
 ·rw [show decide (t.k=3)=true from h1] at hQ; exact ⟨rfl,rfl,rfl,rfl,hQ _⟩
 ·rw [show decide (t.k=3)=false from h1] at hQ; exact ⟨rfl,rfl,rfl,rfl,hQ _⟩

theorem zRV:zIP (EV B w0 G) (H218 (EV B w0 G) opsT zKX):=zJJ (zKM B w0 G) (zJI c224_ok (zJI c225_ok (zJI (zRR hG) (zJI (zRS hG) (zJI (zRU hG) zJH)))))
omit hG in
theorem zRW (s:ByteArray):∃ x:Int×Bool,zI9 Tryz.prog 301 opsT (.str s) true (.tuple [iZ x.1,.bool x.2])/\∀ n:Int,zR9 opsL s n=(x.2&&(x.1==n)):=by
 have hs:=zRI (l:=opsL) (by decide) s
 have hm:=zRH 301 3 (iZ 0) (.int .i64) opsL s true _ (by kernel_rfl) ⟨_,rfl,rfl⟩ rfl
 cases h:zRF opsL s with
 | some m =>
  rw [h] at hm
  exact ⟨(m,true),hm,fun n=>by rw [hs n,h,Bool.true_and]; rfl⟩
 | none =>
  rw [h] at hm
  exact ⟨(0,false),hm,fun n=>by rw [hs n,h]; rfl⟩
theorem c218_ok:zJD (EV B w0 G) 218 C218:=by
 rintro args σ Q ⟨t,rfl,hQ⟩
 refine zN1 hG (fun v hv => ?_) (.int _ _) (fun Q hQ => ?_) hQ
 ·simp only [List.mem_cons,List.not_mem_nil,or_false] at hv
  subst hv; exact zMK t
 obtain ⟨x,hx,hs⟩:=zRW t.s
 refine zKF (cuts:=[]) (zKM B w0 G) (zRV hG) (fun lp hl _ Q a' σ' kk=>kk.elim) ((vc218 B w0 G opsT zKX t Q).mpr ⟨t,rfl,rfl,rfl,opsT,rfl,_,hx,x,rfl,rfl,rfl,?_⟩)
 unfold zRA at hQ
 rw [show (decide (t.k=3) || decide (t.k=5))=zRP t from rfl] at hQ
 refine zE2 (fun h1 => ?_) (fun h1=>⟨t,_,rfl,?_⟩)
 ·rw [if_pos (by simpa using h1)] at hQ; exact hQ _
 rw [if_neg (by simpa using h1)] at hQ
 refine zE2 (fun h2 => ?_) (fun h2=>⟨t,_,_,rfl,?_⟩)
 ·rw [if_pos (show isA t zR8=true from h2)] at hQ; exact hQ _
 rw [if_neg (by rw [show isA t zR8=false from h2]; simp)] at hQ
 refine zE2 (fun h3 => ?_) (fun h3=>⟨t,_,_,rfl,?_⟩)
 ·rw [if_pos (show isF t bEq 2=true from h3)] at hQ; exact hQ _
 rw [if_neg (by rw [show isF t bEq 2=false from h3]; simp)] at hQ
 refine zE2 (fun h4 => ?_) (fun h4 => ?_)
 ·rw [if_pos (show isF t bIs 2=true from h4)] at hQ; exact hQ _
 rw [if_neg (by rw [show isF t bIs 2=false from h4]; simp),hs] at hQ
 have last:∀ b:Bool,b=zR9 zR7 t.s t.l.length->((x.2&&(x.1==(t.l.length:Int)))=false)->∀ σ',bcase b (Q (iZ 0) σ') (Q (iZ 1) σ'):=fun b hb hn σ'=>by
  rw [hn,if_neg (by simp),<-hb] at hQ
  exact zE2 (fun h=>by rw [if_pos h] at hQ; exact hQ _) (fun h=>by rw [if_neg (by simp [h])] at hQ; exact hQ _)
 rw [zMH]
 refine zE2 (fun h5=>zE2 (fun h6 => ?_) (fun h6 => ?_)) (fun h5 => ?_)
 ·rw [h5,h6,Bool.true_and,if_pos rfl] at hQ; exact hQ _
 ·exact ⟨rfl,zKX,rfl,_,zRO _ _,_,rfl,rfl,last _ rfl (by rw [h6,Bool.and_false]) _⟩
 ·exact ⟨rfl,zKX,rfl,_,zRO _ _,_,rfl,rfl,last _ rfl (by rw [h5,Bool.false_and]) _⟩
theorem c213_ok:zJD (EV B w0 G) 213 C213:=by
 rintro args σ Q ⟨s,n,rfl,hQ⟩
 refine zN1 hG (fun v hv => ?_) (.bool _) (fun Q hQ => ?_) hQ
 ·simp only [List.mem_cons,List.not_mem_nil,or_false] at hv
  subst hv; exact zRT hG _ _
 obtain ⟨x,hx,hs⟩:=zRW s
 unfold resS at hQ
 rw [hs] at hQ
 refine zKF (cuts:=[]) (zKM B w0 G) (zRV hG) (fun lp hl _ Q a' σ' kk=>kk.elim) ((vc213 B w0 G opsT zKX s n Q).mpr ⟨rfl,rfl,opsT,rfl,_,hx,x,rfl,rfl,rfl,?_⟩)
 refine zE2 (fun h5=>zE2 (fun h6=>⟨rfl,?_⟩) (fun h6 => ?_)) (fun h5 => ?_)
 ·rw [h5,h6] at hQ; exact hQ _
 ·rw [h6,Bool.and_false,Bool.false_or] at hQ
  exact ⟨rfl,zKX,rfl,_,zRO _ _,_,rfl,rfl,hQ _⟩
 ·rw [h5,Bool.false_and,Bool.false_or] at hQ
  exact ⟨rfl,zKX,rfl,_,zRO _ _,_,rfl,rfl,hQ _⟩
end
end Go.V
namespace Go.V
open Go Go.Proofs

def bPlus:ByteArray:=⟨⟨[43]⟩⟩
def zRX:ByteArray:=⟨⟨[45]⟩⟩
def bTimes:ByteArray:=⟨⟨[42]⟩⟩
def bOver:ByteArray:=⟨⟨[47]⟩⟩
def bMod:ByteArray:=⟨⟨[109,111,100]⟩⟩
def zRY:List ByteArray:=[bPlus,zRX,bTimes,bOver,bMod]
mutual
def zRZ:T->Bool
 | .mk k n s l=>if decide (k=2) || decide (k=1) then true
  else decide (k=5)&&((zRY.any fun x=>zAI s x)&&((decide (l.length=2) || (decide (l.length=1)&&zAI s zRX))&&exprL l))
def exprL:List T->Bool
 | []=>true
 | x :: l=>zRZ x&&exprL l
end
theorem zS0:∀ l:List T,exprL l=l.all zRZ
 | []=>rfl
 | x :: l=>by rw [exprL,zS0 l,List.all_cons]
theorem zS1 (t:T):zRZ t=if decide (t.k=2) || decide (t.k=1) then true
  else decide (t.k=5)&&((zRY.any fun x=>zAI t.s x)&&((decide (t.l.length=2) || (decide (t.l.length=1)&&zAI t.s zRX))&&t.l.all zRZ)):=by
 cases t with
 | mk k n s l=>rw [zRZ,zS0]; rfl
def zS2:List Sym:=[(⟨⟨[119,97,105,116]⟩⟩,1),(⟨⟨[105,110,116,101,103,101,114]⟩⟩,1),(⟨⟨[97,116,111,109]⟩⟩,1),(⟨⟨[115,116,114,105,110,103]⟩⟩,1),(⟨⟨[118,101,99,116,111,114]⟩⟩,1),(⟨⟨[108,105,115,116]⟩⟩,1),(⟨⟨[61,61]⟩⟩,2),(⟨⟨[92,61,61]⟩⟩,2)]
def zS3:List Sym:=[(⟨⟨[61,58,61]⟩⟩,2),(⟨⟨[61,92,61]⟩⟩,2),(⟨⟨[60]⟩⟩,2),(⟨⟨[61,60]⟩⟩,2),(⟨⟨[62]⟩⟩,2),(⟨⟨[62,61]⟩⟩,2)]
def zS4 (t:T):Bool:=isA t zR8 || (decide (t.k=5)&&(zR9 zS2 t.s t.l.length || (zR9 zS3 t.s t.l.length&&t.l.all zRZ)))

def zS5 (l:List T):Bool:=l.all (fun t=>decide (zND t=0))&&decide (sizeL l<=4000)
def zS6:List T->List Int->List Int
 | [],out=>out
 | x :: l,out=>zS6 l (if x.k=1/\x.n∉out then out++[x.n] else out)
def zS7 (l:List T):List Int:=zS6 (nodesTL l) []
def zS8 (l:List T) (vars:Int):Bool:=decide (zS7 l=(List.range (zS7 l).length).map fun i:Nat=>(i:Int))&&decide (((zS7 l).length:Int)=vars)

structure Cl where
 mark:Int
 vars:Int
 head:List T
 guard:List T
 body:List T
def Cl.all (c:Cl):List T:=c.head++c.guard++c.body
structure Pr where
 name:ByteArray
 arity:Int
 cls:List Cl
structure Qu where
 vars:Int
 goals:List T
def zS9 (t:T):Bool:=decide ((zRC t).1=0)
def zSA (t:T):Bool:=!zS4 t
def zSB (c:Cl) (arity:Int):Bool :=
 (decide (0<=c.mark)&&(decide (c.mark<=2)&&(decide ((c.head.length:Int)=arity)&&(decide (c.guard.length<=8)&&decide (c.body.length<=16))))) &&
 ((zS5 c.all&&decide (sizeL c.all<=400))&&(decide ((zS7 c.all).length<=64)&&(!((zS7 c.guard).any fun v=>decide (v∉zS7 c.head))&&(!c.guard.any zSA && !c.body.any zS9))))
def zSC (c:Cl) (arity:Int):Bool:=zSB c arity&&zS8 c.all c.vars
def zSD (l:List T):List Sym:=l.filterMap fun t=>if (zRC t).1=1 then some ((zRC t).2.2.s,((zRC t).2.2.l.length:Int)) else none
def Pr.sym (q:Pr):Sym:=(q.name,q.arity)
def zSE (p:List Pr):Bool:=decide (p.length<=64)&&(decide ((p.map Pr.sym).Nodup)&&p.all fun q=>zMT q.name&&decide (0<=q.arity)&&decide (q.arity<=16) && !resS q.name q.arity&&decide (q.cls.length<=32))
def knownS (p:List Pr) (l:List T):Bool:=(zSD l).all fun s=>zR9 (p.map Pr.sym) s.1 s.2
def zSF (p:List Pr):Bool:=zSE p&&p.all fun q=>q.cls.all fun c=>zSC c q.arity&&knownS p c.body
def zSG (q:Qu):Bool:=decide (q.goals.length<=16)&&(zS5 q.goals&&decide (sizeL q.goals<=400))&&(decide (q.vars<=64)&&(zS8 q.goals q.vars && !q.goals.any zS9))
def zSH (p:List Pr) (q:Qu):Bool:=zSF p&&(zSG q&&knownS p q.goals)
def clV (c:Cl):AV:=.agg [iZ c.mark,iZ c.vars,.slice 4 (tcellL c.head) .any,.slice 4 (tcellL c.guard) .any,.slice 4 (tcellL c.body) .any]
def prV (q:Pr):AV:=.agg [.str q.name,iZ q.arity,.slice 5 (q.cls.map clV) .any]
def zSI (p:List Pr):AV:=.agg [.slice 3 (p.map prV) .any]
def quV (q:Qu):AV:=.agg [iZ q.vars,.slice 4 (tcellL q.goals) .any]
end Go.V
namespace Go.V
open Go Go.Proofs
variable (B:Nat) (w0:World) (G:Nat->AV)
def C194:zJC:=fun args σ K=>∃ (t:T),args=[.agg (tc t)]/\K (.tuple [iZ (zRC t).1,iZ (zRC t).2.1,.agg (tc (zRC t).2.2)]) σ.untok
def H194 (E:Env):zDY:=hnd E zHI zMU [(217,C217),(218,C218)]
def N194:zIE:=hAt [(3,2,hT),(6,2,hT)]
theorem vc194 (t:T) (Q:AV->zA6->Prop):(zKD [] (EV B w0 G) (H194 (EV B w0 G)) nL zHI N194 194 [.agg (tc t)] zJZ Q) =
 (∃ t0:T,∃ s1:ByteArray,∃ n2:Int,[AV.agg (tc t),AV.str ⟨⟨[64]⟩⟩,iZ 2]=[AV.agg (tc t0),AV.str s1,iZ n2]/\bcase (isF t0 s1 n2)
 (((0:Int)<=1/\(1:Int)<(List.length (tcellL (T.l t)):Int))/\∃ x3:T,AV.vptr (AV.cells (List.getD (tcellL (T.l t)) 1 AV.undef))=AV.vptr (tc x3)/\bcase (((T.k x3):Int) != 2)
 (Q (AV.tuple [iZ 0,iZ 0,AV.agg [iZ 0,iZ 0,AV.str ⟨⟨[]⟩⟩,AV.nilslice]]) (Ut zJZ))
 (bcase (decide (((T.n x3):Int)<0))
 (Q (AV.tuple [iZ 0,iZ 0,AV.agg [iZ 0,iZ 0,AV.str ⟨⟨[]⟩⟩,AV.nilslice]]) (Ut zJZ))
 (bcase (decide (((T.n x3):Int) > 15))
 (Q (AV.tuple [iZ 0,iZ 0,AV.agg [iZ 0,iZ 0,AV.str ⟨⟨[]⟩⟩,AV.nilslice]]) (Ut zJZ))
 (((0:Int)<=0/\(0:Int)<(List.length (tcellL (T.l t)):Int))/\∃ x4:T,AV.vptr (AV.cells (List.getD (tcellL (T.l t)) 0 AV.undef))=AV.vptr (tc x4)/\Rf (TV.l 6 1)/\Rf (TV.v (iZ (T.n x3)))/\∃ t5:T,[AV.agg (tc x4)]=[AV.agg (tc t5)]/\bcase (((zRA t5):Int)==0)
 (Q (AV.tuple [iZ 0,iZ 0,AV.agg [iZ 0,iZ 0,AV.str ⟨⟨[]⟩⟩,AV.nilslice]]) (Ut (Ut zJZ)))
 (Q (AV.tuple [iZ (zRA t5),iZ (T.n x3),AV.agg (tc x4)]) (Ut (Ut zJZ)))))))
 (∃ t3:T,[AV.agg (tc t)]=[AV.agg (tc t3)]/\bcase (((zRA t3):Int)==0)
 (Q (AV.tuple [iZ 0,iZ 0,AV.agg [iZ 0,iZ 0,AV.str ⟨⟨[]⟩⟩,AV.nilslice]]) (Ut (Ut zJZ)))
 (Q (AV.tuple [iZ (zRA t3),iZ 0,AV.agg (tc t)]) (Ut (Ut zJZ))))):=by kernel_rfl
def H234 (E:Env):zDY:=hnd E zHI zMU [(194,C194)]
theorem vc234 (t:T) (Q:AV->zA6->Prop):(zKD [] (EV B w0 G) (H234 (EV B w0 G)) nL zHI zMV 234 [.agg (tc t)] zJZ Q) =
 (∃ t0:T,[AV.agg (tc t)]=[AV.agg (tc t0)]/\Q (AV.bool (((Prod.fst (zRC t0)):Int)==0)) (Ut zJZ)):=by kernel_rfl
theorem vc193 (t:T) (Q:AV->zA6->Prop):(zKD [] (EV B w0 G) (H234 (EV B w0 G)) nL zHI zMV 193 [.agg (tc t)] zJZ Q) =
 (∃ t0:T,[AV.agg (tc t)]=[AV.agg (tc t0)]/\Q (AV.bool (((Prod.fst (zRC t0)):Int)==0)) (Ut zJZ)):=by kernel_rfl
def handF (k:Nat) (c:zJC):zDY:=fun t args σ K=>match t with
 | .fn f=>f=k/\c args σ K
 | .yield _=>False
def CP (P:T->Bool) (R:T->Prop):zJC:=fun args σ K=>∃ t:T,args=[.agg (tc t)]/\(R t/\K (.bool (P t)) σ.untok)
def C216 (k:Nat) (P:T->Bool) (R:T->Prop):zJC:=fun args σ K=>∃ l:List T,args=[.slice 4 (tcellL l) .any,.func (.func k) [] []]/\((l.length<=1000000/\∀ x∈l,R x)/\((l.any P=true->∀ i:Nat,i<l.length->K (iZ (i:Int)) σ.untok)/\(l.any P=false->K (iZ (-1)) σ.untok)))
def C192 (k:Nat) (P:T->Bool) (R:T->Prop):zJC:=fun args σ K=>∃ l:List T,args=[.slice 4 (tcellL l) .any,.func (.func k) [] []]/\((l.length<=1000000/\∀ x∈l,R x)/\K (.bool (l.any P)) σ.untok)
def zSJ (k:Nat) (P:T->Bool) (l:List T):LS Nat where
 F i:=[(0,.v (slV l)),(1,.v (.func (.func k) [] [])),(7,.v (iZ (l.length:Int))),(8,.v (iZ (i:Int)))]
 FL _:=[]
 S _:=zJZ
 I i:=i<=l.length/\(l.take i).any P=false
 μ i:=l.length - i
 Ex i e a σ:=match e with
  | .exit 0=>¬ (i<l.length)/\atF a [] [] True
  | .ret=>(l.any P=true/\i<l.length)/\atF a [(4,.v (iZ (i:Int)))] [] True
  | _=>False
def N216:zIE:=hAt [(4,3,hT),(4,5,zIB.s)]
theorem zSK:zKE Tryz.prog [] 216=[.loop (lB 216 0)]:=by kernel_rfl
theorem vc216l (k:Nat) (P:T->Bool) (R:T->Prop) (l:List T) (i:Nat):(wpX [] (EV B w0 G) (handF k (CP P R)) nL (zHI 216) N216 (lB 216 0) ((zSJ k P l).post i) (frm ((zSJ k P l).F i) []) zJZ) =
 (bcase (decide ((i:Int)<(List.length l:Int)))
 (((0:Int)<=(i:Int)/\(i:Int)<(List.length (tcellL l):Int))/\∃ x0:T,AV.vptr (AV.cells (List.getD (tcellL l) (Int.toNat (↑i:Int)) AV.undef))=AV.vptr (tc x0)/\Has Tryz.prog k/\k=k/\∃ t1:T,[AV.agg (tc x0)]=[AV.agg (tc t1)]/\R t1/\bcase (P t1)
 ((List.any l P=true/\i<List.length l)/\Rf (TV.v (iZ (i:Int)))/\True)
 (∃ x'2:Nat,((x'2<=List.length l/\List.any (List.take x'2 l) P=false)/\LS.μ (zSJ k P l) x'2<LS.μ (zSJ k P l) i)/\Rf (TV.v (sT l))/\Rf (TV.v (AV.func (Go.Fn.func k) [] []))/\Rf (TV.v (iZ (List.length l:Int)))/\TV.v (iZ (IntKind.wrap .i64 ((i:Int)+1)))=TV.v (iZ (x'2:Int))/\zA6.Le ((zSJ k P l).3 x'2) (Ut zJZ)))
 (((i<List.length l)->False)/\True)):=by kernel_rfl
def T216 (k:Nat) (P:T->Bool) (l:List T):zFV:=fun _ Q a σ=>atF a ((zSJ k P l).F 0) [] (zJZ.Le σ)/\(((l.any P=false)->∀ σ':zA6,Q (.exit 0) (frm [] []) σ')/\(∀ i:Nat,l.any P=true->i<l.length->∀ σ':zA6,Q .ret (frm [(4,.v (iZ (i:Int)))] []) σ'))
theorem vc216 (k:Nat) (P:T->Bool) (R:T->Prop) (l:List T) (Q:AV->zA6->Prop):(zKD [] (EV B w0 G) (handF k (CP P R)) (T216 k P l) zHI N216 216 [slV l,.func (.func k) [] []] zJZ Q) =
 ((Rf (TV.v (sT l))/\Rf (TV.v (AV.func (Go.Fn.func k) [] []))/\TV.v (iZ (List.length (tcellL l):Int))=TV.v (iZ (List.length l:Int))/\Rf (TV.v (iZ 0))/\zA6.Le zJZ zJZ)/\((List.any l P=false)->(∀ σ'0:zA6,Q (iZ (-1)) σ'0))/\(∀ i0:Nat,((List.any l P=true)->((i0<List.length l)->(∀ σ'1:zA6,Q (iZ (i0:Int)) σ'1))))):=by kernel_rfl
theorem vc192 (k:Nat) (P:T->Bool) (R:T->Prop) (l:List T) (Q:AV->zA6->Prop):(zKD [] (EV B w0 G) (hnd (EV B w0 G) zHI zMU [(216,C216 k P R)]) nL zHI zMV 192 [slV l,.func (.func k) [] []] zJZ Q) =
 (∃ l0:List T,[sT l,AV.func (Go.Fn.func k) [] []]=[sT l0,AV.func (Go.Fn.func k) [] []]/\(List.length l0<=1000000/\(∀ x1:T,((x1∈l0)->(R x1))))/\((List.any l0 P=true)->(∀ i1:Nat,((i1<List.length l0)->(Q (AV.bool true) (Ut zJZ)))))/\((List.any l0 P=false)->(Q (AV.bool false) (Ut zJZ)))):=by kernel_rfl
end Go.V
namespace Go.V
open Go Go.Proofs

theorem zSL {E:Env} {f:Nat} {args:List AV} {v:AV} {Q:AV->zA6->Prop} {σ:zA6} (hG:∀ i,zJV (E.G i)) (ha:∀ x∈args,zJV x) (hv:zJV v) (h:∀ Q:AV->zA6->Prop,(∀ u σ',Wk u v->Q u σ')->zDV E f args zJZ Q) (hQ:Q v σ.untok):zDV E f args σ Q :=
 .pure hG ha (h (fun u _=>Wk u v) fun _ _ hw=>hw) fun u σ' k=>⟨v,k,hv,hQ⟩
theorem Wk.zero:Wk (.agg [iZ 0,iZ 0,.str ⟨⟨[]⟩⟩,.nilslice]) (.agg (tc Tz)) :=
 Wk.agg (.cons (.refl _) (.cons (.refl _) (.cons (.refl _) (.cons (Wk.nil 4) .nil))))
theorem zSM:zJZ.Le zJZ.untok:=⟨rfl,fun id => .inr rfl⟩
theorem zSN {E:Env} {k:Nat} {c:zJC} (h:zJD E k c):zIP E (handF k c):=fun t args σ Q hq=>by
 cases t with
 | fn f =>
  obtain ⟨rfl,hq⟩:=hq
  exact h _ _ _ hq
 | yield id=>exact hq.elim

section
variable {B:Nat} {w0:World} {G:Nat->AV}
variable (hG:∀ i,zJV (G i))
include hG
theorem zSO:zJD (EV B w0 G) 194 C194:=by
 rintro args σ Q ⟨t,rfl,hQ⟩
 refine zSL hG (fun v hv => ?_) (.tuple fun x hx => ?_) (fun Q hQ => ?_) hQ
 ·simp only [List.mem_cons,List.not_mem_nil,or_false] at hv
  subst hv; exact zMK t
 ·simp only [List.mem_cons,List.not_mem_nil,or_false] at hx
  rcases hx with rfl | rfl | rfl
  ·exact .int _ _
  ·exact .int _ _
  ·exact zMK _
 have hH:zIP (EV B w0 G) (H194 (EV B w0 G)):=zJJ (zKM B w0 G) (zJI (zRR hG) (zJI (c218_ok hG) zJH))
 have zero:zRC t=(0,0,Tz)->∀ σ',Q (.tuple [iZ 0,iZ 0,.agg [iZ 0,iZ 0,.str ⟨⟨[]⟩⟩,.nilslice]]) σ':=fun h σ'=>hQ _ _ (by
  rw [h]; exact Wk.tuple (.cons (.refl _) (.cons (.refl _) (.cons Wk.zero .nil))))
 have one:∀ (k p:Int) (x:T),zRC t=(k,p,x)->∀ σ',Q (.tuple [iZ k,iZ p,.agg (tc x)]) σ':=fun k p x h σ'=>hQ _ _ (by rw [h]; exact .refl _)
 refine zKF (cuts:=[]) (zKM B w0 G) hH (fun lp hl _ Q a' σ' kk=>kk.elim) ((vc194 B w0 G t Q).mpr ⟨t,_,_,rfl,zE2 (fun h1 => ?_) (fun h1=>⟨t,rfl,zE2 (fun h2 => ?_) (fun h2 => ?_)⟩)⟩)
 ·have h1:isF t bAt 2=true:=h1
  have hl:t.l.length=2:=by
   unfold isF at h1
   simp only [Bool.and_eq_true,decide_eq_true_eq] at h1
   omega
  have hg:zRC t=if t.l[1].k≠2\/t.l[1].n<0\/t.l[1].n > 15 then (0,0,Tz) else zRB t.l[0] t.l[1].n:=by
   unfold zRC
   rw [if_pos h1,List.getD_eq_getElem?_getD,List.getElem?_eq_getElem (by omega),List.getD_eq_getElem?_getD,List.getElem?_eq_getElem (by omega)]; rfl
  rw [zMH]
  refine ⟨⟨by omega,by omega⟩,t.l[1],zNA (by omega),zE2 (fun h2 => ?_) (fun h2=>zE2 (fun h3 => ?_) (fun h3=>zE2 (fun h4 => ?_) (fun h4=>⟨⟨by omega,by omega⟩,t.l[0],zNA (by omega),rfl,rfl,t.l[0],rfl,zE2 (fun h5 => ?_) (fun h5 => ?_)⟩)))⟩
  ·exact zero (by rw [hg,if_pos (.inl (by simpa using h2))]) _
  ·exact zero (by rw [hg,if_pos (.inr (.inl (of_decide_eq_true h3)))]) _
  ·exact zero (by rw [hg,if_pos (.inr (.inr (of_decide_eq_true h4)))]) _
  all_goals
   have h2:t.l[1].k=2:=by simpa using h2
   have h3:=of_decide_eq_false h3
   have h4:=of_decide_eq_false h4
   rw [if_neg (fun h=>h.elim (fun h=>h h2) fun h=>h.elim h3 h4)] at hg
   unfold zRB at hg
  ·rw [if_pos (by simpa using h5)] at hg; exact zero hg _
  ·rw [if_neg (by simpa using h5)] at hg; exact one _ _ _ hg _
 all_goals
  have h1:isF t bAt 2=false:=h1
  have hg:zRC t=zRB t 0:=by unfold zRC; rw [if_neg (by rw [h1]; simp)]
  unfold zRB at hg
 ·rw [if_pos (by simpa using h2)] at hg; exact zero hg _
 ·rw [if_neg (by simpa using h2)] at hg; exact one _ _ _ hg _

theorem c234_ok (R:T->Prop):zJD (EV B w0 G) 234 (CP zS9 R):=by
 rintro args σ Q ⟨t,rfl,_,hQ⟩
 refine zN1 hG (fun v hv => ?_) (.bool _) (fun Q hQ => ?_) hQ
 ·simp only [List.mem_cons,List.not_mem_nil,or_false] at hv
  subst hv; exact zMK t
 exact zKF (cuts:=[]) (zKM B w0 G) (zJJ (zKM B w0 G) (zJI (zSO hG) zJH)) (fun lp hl _ Q a' σ' kk=>kk.elim) ((vc234 B w0 G t Q).mpr ⟨t,rfl,hQ _⟩)
theorem c193_ok (R:T->Prop):zJD (EV B w0 G) 193 (CP zS9 R):=by
 rintro args σ Q ⟨t,rfl,_,hQ⟩
 refine zN1 hG (fun v hv => ?_) (.bool _) (fun Q hQ => ?_) hQ
 ·simp only [List.mem_cons,List.not_mem_nil,or_false] at hv
  subst hv; exact zMK t
 exact zKF (cuts:=[]) (zKM B w0 G) (zJJ (zKM B w0 G) (zJI (zSO hG) zJH)) (fun lp hl _ Q a' σ' kk=>kk.elim) ((vc193 B w0 G t Q).mpr ⟨t,rfl,hQ _⟩)

omit hG in
theorem any_take {P:T->Bool} {l:List T} {i:Nat} (h:i<l.length):(l.take (i+1)).any P=((l.take i).any P || P l[i]):=by
 rw [List.take_succ_eq_append_getElem h,List.any_append]; simp
theorem c216_ok {k:Nat} {P:T->Bool} {R:T->Prop} (hk:Has Tryz.prog k) (h:zJD (EV B w0 G) k (CP P R)):zJD (EV B w0 G) 216 (C216 k P R):=by
 rintro args σ Q ⟨l,rfl,⟨hlen,hR⟩,hQ1,hQ2⟩
 refine zDV.pure hG (Q0:=fun u _=>(l.any P=true/\∃ i:Nat,i<l.length/\u=iZ (i:Int))\/(l.any P=false/\u=iZ (-1))) (fun v hv => ?_) ?_ (fun u σ' k => ?_)
 ·simp only [List.mem_cons,List.not_mem_nil,or_false] at hv
  rcases hv with rfl | rfl
  ·exact zQI l
  ·exact .func (by simp) (by simp)
 ·refine zKF (cuts:=[]) (zKM B w0 G) (zSN h) (fun lp hl _ Q a' σ kk => ?_) ((vc216 B w0 G k P R l _).mpr ⟨⟨rfl,rfl,by rw [zMH],rfl,.refl _⟩,fun h σ' => .inr ⟨h,rfl⟩,fun i h hi σ' => .inl ⟨h,i,hi,rfl⟩⟩)
  change lp∈zKE Tryz.prog [] 216 at hl
  rw [zSK] at hl
  simp only [List.mem_cons,List.not_mem_nil,or_false] at hl
  subst hl
  obtain ⟨hat,hR1,hR2⟩:=kk
  refine zK5 (zSJ k P l) (x0:=0) (fun i hI => ?_) (fun i hI e a' σ hne kk => ?_) ⟨Nat.zero_le _,by simp⟩ hat
  ·obtain ⟨hi,hg⟩:i<=l.length/\(l.take i).any P=false:=hI
   refine zP3 (zSN h) (zKM B w0 G) (by kernel_rfl) ((vc216l B w0 G k P R l i).mpr (zE2 (fun h => ?_) (fun h=>⟨fun h2 => ?_,trivial⟩)))
   ·have h:=of_decide_eq_true h
    have hi2:i<l.length:=by omega
    have ht:=any_take (P:=P) hi2
    rw [hg,Bool.false_or] at ht
    refine ⟨⟨by omega,by rw [zMH]; omega⟩,l[i],by rw [Int.toNat_natCast]; exact zNA hi2,hk,rfl,l[i],rfl,hR _ (List.getElem_mem hi2),zE2 (fun hp=>⟨⟨?_,hi2⟩,rfl,trivial⟩) (fun hp=>⟨i+1,⟨⟨hi2,by rw [ht]; exact hp⟩,?_⟩,rfl,rfl,rfl,?_,zSM⟩)⟩
    ·rw [List.any_eq_true]; exact ⟨l[i],List.getElem_mem hi2,hp⟩
    ·show l.length - (i+1)<l.length - i
     omega
    ·rw [show ((i:Int)+1)=((i+1:Nat):Int) by omega,zN8 (by omega) (by omega)]
   ·have h:=of_decide_eq_false h
    omega
  ·obtain ⟨hi,hg⟩:i<=l.length/\(l.take i).any P=false:=hI
   cases e with
   | exit j =>
    match j,kk with
    | 0,kk =>
     have hk:¬ i<l.length:=kk.1
     rw [show i=l.length by omega,List.take_length] at hg
     exact ⟨_,σ,(zJM kk.2).1,.refl _,hR1 hg σ⟩
   | ret=>exact ⟨_,σ,(zJM kk.2).1,.refl _,hR2 i kk.1.1 kk.1.2 σ⟩
   | normal=>exact absurd rfl hne
   | _=>exact kk.elim
 ·rcases k with ⟨h1,i,hi,rfl⟩ | ⟨h1,rfl⟩
  ·exact ⟨_,.refl _,.int _ _,hQ1 h1 i hi⟩
  ·exact ⟨_,.refl _,.int _ _,hQ2 h1⟩
theorem zSP {k:Nat} {P:T->Bool} {R:T->Prop} (hk:Has Tryz.prog k) (h:zJD (EV B w0 G) k (CP P R)):zJD (EV B w0 G) 192 (C192 k P R):=by
 rintro args σ Q ⟨l,rfl,⟨hlen,hR⟩,hQ⟩
 refine zN1 hG (fun v hv => ?_) (.bool _) (fun Q hQ => ?_) hQ
 ·simp only [List.mem_cons,List.not_mem_nil,or_false] at hv
  rcases hv with rfl | rfl
  ·exact zQI l
  ·exact .func (by simp) (by simp)
 refine zKF (cuts:=[]) (zKM B w0 G) (zJJ (zKM B w0 G) (zJI (c216_ok hG hk h) zJH)) (fun lp hl _ Q a' σ' kk=>kk.elim) ((vc192 B w0 G k P R l Q).mpr ⟨l,rfl,⟨hlen,hR⟩,fun h i hi => ?_,fun h => ?_⟩)
 ·rw [h] at hQ; exact hQ _
 ·rw [h] at hQ; exact hQ _
end
end Go.V
