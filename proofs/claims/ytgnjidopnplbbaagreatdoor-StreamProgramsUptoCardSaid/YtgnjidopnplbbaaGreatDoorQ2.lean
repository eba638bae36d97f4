/- A part of the proof of the statement S8 (texts brought together and shortened by a program of this work). -/
import Derived.Test.YtgnjidopnplbbaaGreatDoorQ1
import Derived.RangeFuncIn
import Derived.RangeFuncLeaves
import Derived.OrdersIn
import Derived.LoopIn
set_option linter.unusedSimpArgs false
set_option linter.unusedVariables false
namespace Go.V
open Go.RowKit

structure Env where
 P:Program
 B:Nat
 w0:World
 G:Nat->AV

structure zDM where
 ann:Nat->Nat->Ann
 eff:Nat->List Nat

def noAnn:zDM:=⟨fun _ _ => .none,fun _=>[]⟩

inductive TV where
 | v (a:AV)
 | l (k off:Nat)

def TV.low:TV->AV
 | .v a=>a
 | .l _ _ => .undef

structure zDN where
 t:Nat->TV
 l:Nat->List AV

def zDN.low (a:zDN):Nat->AV:=fun t=>(a.t t).low

def zDO (G:Nat->AV) (a:zDN):Operand->TV
 | .tmp t=>a.t t
 | .const v => .v (av v)
 | .global g => .v (G g)
 | .func f => .v (.func (.func f) [] [])

def RVt (g:zA2) (loc:Nat->Option Nat):TV->Value->Prop
 | .v a,u=>RV g a u
 | .l k off,u=>∃ b,loc k=some b/\u = .pointer (some ⟨b,off,none⟩)

def zDP (R0:Nat->Option Obj) (B:Nat) (g:zA2):List Deferred->Prop
 | []=>True
 | d :: ds=>(∃ r,d={ target:=.collected r,args:=#[] }/\B<=r/\R0 r=none/\g.R r=some (.deferred (some []))/\∀ d'∈ds,d'.target ≠ .collected r)/\zDP R0 B g ds

theorem zDP.turn {R0:Nat->Option Obj} {B:Nat} {g g':zA2}:∀ {ds:List Deferred},zDP R0 B g ds->(∀ r,g.R r=some (.deferred (some []))->(∃ d∈ds,d.target = .collected r)->g'.R r=some (.deferred (some [])))->zDP R0 B g' ds
 | [],_,_=>trivial
 | d :: ds,h,hk=>by
  obtain ⟨⟨r,h1,h2,h3,h4,h5⟩,h6⟩:=h
  exact ⟨⟨r,h1,h2,h3,hk r h4 ⟨d,by simp,by rw [h1]⟩,h5⟩,h6.turn fun r hr ⟨d',hd',hdr⟩=>hk r hr ⟨d',by simp [hd'],hdr⟩⟩

structure Fr (n:Nat) (R0:Nat->Option Obj) (B:Nat) (g:zA2) (loc:Nat->Option Nat) (a:zDN) (act:Act):Prop where
 size:act.tmps.size=n
 marks:zDP R0 B g act.defers
 tmp:∀ t,RVt g loc (a.t t) (act.tmps.getD t undef)
 cell:∀ k b,loc k=some b->B<=b/\R0 b=none/\∃ c e,g.R b=some (.cells c e (0,0))/\RVL g (a.l k) c.toList/\(a.l k).all AV.one=true
 inj:∀ k j b,loc k=some b->loc j=some b->k=j
 sub:∀ b o,R0 b=some o->g.R b=some o

theorem RVt.mono {g g':zA2} (h:g.LeX g') {loc:Nat->Option Nat} {x:TV} {u:Value} (k:RVt g loc x u):RVt g' loc x u:=by
 cases x with
 | v a=>exact RV.monoX h k
 | l k off=>exact k
theorem RVt.low {g:zA2} {loc:Nat->Option Nat} {x:TV} {u:Value} (k:RVt g loc x u):RV g x.low u:=by
 cases x with
 | v a=>exact k
 | l k off=>exact .undef u

theorem Fr.relT {n B:Nat} {R0:Nat->Option Obj} {g:zA2} {loc:Nat->Option Nat} {a:zDN} {act:Act} (h:Fr n R0 B g loc a act):RelT n g a.low act:=⟨h.size,fun t=>(h.tmp t).low⟩

theorem Fr.mono {n B:Nat} {R0:Nat->Option Obj} {g g':zA2} {loc:Nat->Option Nat} {a:zDN} {act:Act} (h:Fr n R0 B g loc a act) (hle:g.Le g'):Fr n R0 B g' loc a act :=
 ⟨h.size,h.marks.turn fun r hr _=>by rw [hle.R]; exact hr,fun t=>(h.tmp t).mono hle.x,fun k b hk=>by
  obtain ⟨h1,h2,c,e,h3,h4,h5⟩:=h.cell k b hk
  exact ⟨h1,h2,c,e,by rw [hle.R]; exact h3,h4.mono hle,h5⟩,h.inj,fun b o hb=>by rw [hle.R]; exact h.sub b o hb⟩

theorem zDQ {n B:Nat} {R0:Nat->Option Obj} {g:zA2} {loc:Nat->Option Nat} {a:zDN} {act:Act} {G:Nat->AV} (hG:zBM g G) (h:Fr n R0 B g loc a act) (x:Operand):RVt g loc (zDO G a x) (act.eval x):=by
 cases x with
 | tmp t=>exact h.tmp t
 | const v=>exact zBL g v
 | global k=>exact hG k
 | func f=>exact RV.func' (.nil g) (.nil g)

def zDN.put (a:zDN) (dst:Option Tmp) (v:TV):zDN :=
 match dst with
 | some d=>{ a with t:=fun j=>if j=d then v else a.t j }
 | none=>a

def zDR (n:Nat) (o:Oper):Bool:=match o.dst with | some d=>decide (d<n) | none=>true

theorem Fr.put {n B:Nat} {R0:Nat->Option Obj} {g:zA2} {loc:Nat->Option Nat} {a:zDN} {act:Act} (h:Fr n R0 B g loc a act) {o:Oper} (hd:zDR n o=true) {v:TV} {u:Value} (hv:RVt g loc v u):Fr n R0 B g loc (a.put o.dst v) (act.put o.dst u):=by
 unfold zDR at hd
 cases hdst:o.dst with
 | none=>exact h
 | some d =>
  rw [hdst] at hd
  simp at hd
  refine ⟨by simp [Act.put,h.size],h.marks,fun j => ?_,h.cell,h.inj,h.sub⟩
  show RVt g loc (if j=d then v else a.t j) ((act.tmps.setIfInBounds d u).getD j undef)
  by_cases e:j=d
  ·subst e
   have hlt:j<act.tmps.size:=by rw [h.size]; exact hd
   simp [Array.getD_eq_getD_getElem?,hlt,hv]
  ·rw [if_neg e]
   have:=h.tmp j
   simpa [Array.getD_eq_getD_getElem?,Array.getElem?_setIfInBounds_ne (Ne.symm e)] using this

def TV.kill (k:Nat):TV->TV
 | .l j off=>if j=k then .v .undef else .l j off
 | x=>x

def zDN.newL (a:zDN) (d:Nat) (cs:List AV):zDN :=
 { t:=fun j=>if j=d then .l d 0 else (a.t j).kill d,l:=fun j=>if j=d then cs else a.l j }

def zDN.setL (a:zDN) (k:Nat) (cs:List AV):zDN:={ a with l:=fun j=>if j=k then cs else a.l j }

def zDS (E:Env) (g:zA2) (Q:AV->zA6->Prop):Ending->World->Prop
 | .returned v,w'=>∃ g' σ' a,g.Le g'/\Sim E.B E.w0 g' σ' w'/\RV g' a v/\Q a σ'
 | .outgrown,_=>False
 | .panicked _,_=>False

def zDT (g:zA2):Option Nat->Fence->Prop
 | none,F=>F=Fence.wide
 | some id,F=>∃ i,g.info id=some i/\F=Fence.wide.inRound i.blk
theorem zDT.mono {g g':zA2} {rd:Option Nat} {F:Fence} (h:g.LeX g') (k:zDT g rd F):zDT g' rd F:=by
 cases rd with
 | none=>exact k
 | some id=>obtain ⟨i,h1,h2⟩:=k; exact ⟨i,h.info _ _ h1,h2⟩
theorem zDT.fn {g:zA2} {rd:Option Nat} {F:Fence} (k:zDT g rd F) (f:FuncId):F.fn f:=by
 cases rd with
 | none=>cases k; trivial
 | some id=>obtain ⟨i,_,rfl⟩:=k; trivial
theorem zDT.depth {g:zA2} {rd:Option Nat} {F:Fence} (k:zDT g rd F):F.depth=none:=by
 cases rd with
 | none=>cases k; rfl
 | some id=>obtain ⟨i,_,rfl⟩:=k; rfl
theorem zDT.calls {g:zA2} {rd:Option Nat} {F:Fence} (k:zDT g rd F) {P:Program} {f:FuncId} {args:Array Value} {w:World} {R:Ending->World->Prop} (h:Calls P f args w R):CallsIn F 0 P f args w R:=by
 cases rd with
 | none=>cases k; exact callsIn_wide.2 h
 | some id=>obtain ⟨i,_,rfl⟩:=k; exact (callsIn_wide (n:=0)).2 h
theorem zDU {g:zA2} {rd:Option Nat} {F:Fence} (k:zDT g rd F) {P:Program} {o:Oper} {act:Act} {w:World} {next:Act->World->Prop} {Q:Exit->Act->World->Prop} (hnd:∀ c,o.op ≠ .defer c)
  (h:o.uponIn F 0 P act next Q ((execOp act.eval o).run P w)):o.wpIn F 0 P act w next Q :=
 ⟨fun f _=>k.fn f,by rw [Oper.semAt_eq _ _ _ hnd]; exact h⟩

theorem zDS.mono' {E:Env} {g:zA2} {Q Q':AV->zA6->Prop} {e:Ending} {w:World} (k:zDS E g Q e w) (h:∀ v σ,Q v σ->Q' v σ):zDS E g Q' e w:=by
 cases e with
 | returned v=>obtain ⟨g',σ',a,h1,h2,h3,h4⟩:=k; exact ⟨g',σ',a,h1,h2,h3,h _ _ h4⟩
 | outgrown=>exact k
 | panicked c=>exact k

structure zDV (E:Env) (f:Nat) (args:List AV) (σ:zA6) (Q:AV->zA6->Prop):Prop where
 run:∀ g w (vs:Array Value),zBM g E.G->Sim E.B E.w0 g σ w->RVL g args vs.toList->Calls E.P f vs w (zDS E g Q)

abbrev zDW:=Exit->zDN->zA6->Prop

def zDX (E:Env) (n:Nat) (R0:Nat->Option Obj) (g:zA2) (Q:zDW):Exit->Act->World->Prop
 | .outgrown,_,_=>False
 | .panic _,_,_=>False
 | e,act,w=>∃ g' a σ loc,g.LeX g'/\Sim E.B E.w0 g' σ w/\Fr n R0 E.B g' loc a act/\Q e a σ

structure AWp (E:Env) (rd:Option Nat) (n:Nat) (c:Code) (Q:zDW) (a:zDN) (σ:zA6):Prop where
 run:∀ g w act loc R0 F,zDT g rd F->zBM g E.G->Sim E.B E.w0 g σ w->Fr n R0 E.B g loc a act->c.wpIn F 0 E.P (zDX E n R0 g Q) act w

abbrev zDY:=Tgt->List AV->zA6->(AV->zA6->Prop)->Prop
structure zDZ (E:Env) (id:Nat) (args:List AV) (σ:zA6) (Q:AV->zA6->Prop):Prop where
 run:∀ g w (vs:Array Value) i rd F,zDT g rd F->zBM g E.G->Sim E.B E.w0 g σ w->g.info id=some i->RVL g args vs.toList ->
  ∃ f tmps assign body,(Instr.yield i.blk vs).run E.P w = .ok (.round i.blk f tmps assign body) w/\RoundIn F 0 E.P i.blk f tmps assign body w (zDS E g Q)
theorem zDZ.mono {E:Env} {id:Nat} {args:List AV} {σ:zA6} {Q Q':AV->zA6->Prop} (h:zDZ E id args σ Q) (hq:∀ v σ',Q v σ'->Q' v σ'):zDZ E id args σ Q' :=
 ⟨fun g w vs i rd F hF hG hS hi hv=>by
  obtain ⟨f,tmps,assign,body,h1,h2⟩:=h.run g w vs i rd F hF hG hS hi hv
  exact ⟨f,tmps,assign,body,h1,h2.mono fun e w' k=>k.mono' hq⟩⟩

def zE0 (E:Env):zDY
 | .fn f=>zDV E f
 | .yield id=>zDZ E id

structure HOk (E:Env) (H:zDY):Prop where
 ok:∀ t args σ Q,H t args σ Q->zE0 E t args σ Q
 mono:∀ f args σ (Q Q':AV->zA6->Prop),(∀ v σ',Q v σ'->Q' v σ')->H f args σ Q->H f args σ Q'

theorem zBM.monoX {g g':zA2} (h:g.LeX g') {G:Nat->AV} (k:zBM g G):zBM g' G:=fun i=>(k i).monoX h

theorem zDS.mono {E:Env} {g:zA2} {Q Q':AV->zA6->Prop} (h:∀ v σ,Q v σ->Q' v σ) {e:Ending} {w:World} (k:zDS E g Q e w):zDS E g Q' e w:=by
 cases e with
 | returned v=>obtain ⟨g',σ',a,h1,h2,h3,h4⟩:=k; exact ⟨g',σ',a,h1,h2,h3,h _ _ h4⟩
 | outgrown=>exact k
 | panicked c=>exact k
theorem zDX.le {E:Env} {n:Nat} {R0:Nat->Option Obj} {g g1:zA2} (h:g.LeX g1) {Q:zDW} {e:Exit} {act:Act} {w:World} (k:zDX E n R0 g1 Q e act w):zDX E n R0 g Q e act w:=by
 cases e <;> first | trivial | exact k | (obtain ⟨g',a,σ,loc,h1,r⟩:=k; exact ⟨g',a,σ,loc,h.trans h1,r⟩)
theorem zDX.mono {E:Env} {n:Nat} {R0:Nat->Option Obj} {g:zA2} {Q Q':zDW} (h:∀ e a σ,Q e a σ->Q' e a σ) {e:Exit} {act:Act} {w:World} (k:zDX E n R0 g Q e act w):zDX E n R0 g Q' e act w:=by
 cases e <;> first | trivial | exact k | (obtain ⟨g',a,σ,loc,h1,h2,h3,h4⟩:=k; exact ⟨g',a,σ,loc,h1,h2,h3,h _ _ _ h4⟩)

theorem zDV.mono {E:Env} {f:Nat} {args:List AV} {σ:zA6} {Q Q':AV->zA6->Prop} (h:zDV E f args σ Q) (hq:∀ v σ',Q v σ'->Q' v σ'):zDV E f args σ Q' :=
 ⟨fun g w vs hG hS hv=>(h.run g w vs hG hS hv).mono fun e w' k=>k.mono hq⟩
theorem zE1 (E:Env):HOk E (zE0 E):=⟨fun _ _ _ _ h=>h,fun t _ _ _ _ h k=>by
 cases t with
 | fn f=>exact zDV.mono k h
 | yield id=>exact zDZ.mono k h⟩
theorem AWp.mono {E:Env} {rd:Option Nat} {n:Nat} {c:Code} {Q Q':zDW} {a:zDN} {σ:zA6} (h:AWp E rd n c Q a σ) (hq:∀ e a σ',Q e a σ'->Q' e a σ'):AWp E rd n c Q' a σ :=
 ⟨fun g w act loc R0 F hF hG hS hT=>wpIn_mono (h.run g w act loc R0 F hF hG hS hT) fun e a w k=>k.mono hq⟩

def bcase (b:Bool) (x y:Prop):Prop :=
 match b with
 | true=>x
 | false=>y

theorem zE2 {b:Bool} {x y:Prop} (h1:b=true->x) (h2:b=false->y):bcase b x y:=by
 cases b
 ·exact h2 rfl
 ·exact h1 rfl

abbrev zE3:=zDN->zA6->Prop

def zE4 (E:Env) (H:zDY) (ann:Ann) (o:Oper) (K:zE3) (a:zDN) (σ:zA6):Prop :=
 match zDL E.P ann o (zAA E.G a.low) σ with
 | .ok v σ'=>K (a.put o.dst (.v v)) σ'
 | .call f args=>H f args σ fun v σ'=>K (a.put o.dst (.v v)) σ'
 | .fail=>False
 | .both v1 σ1 v2 σ2=>K (a.put o.dst (.v v1)) σ1/\K (a.put o.dst (.v v2)) σ2

def zE5 (ann:Ann) (o:Oper) (cs:List AV) (K:zE3) (gen:Prop) (a:zDN) (σ:zA6):Prop :=
 match ann,o.dst with
 | .none,some d=>cs.all AV.one=true/\K (a.newL d cs) σ
 | _,_=>gen

def goS (E:Env) (H:zDY) (ann:Ann) (o:Oper) (K:zE3) (a:zDN) (σ:zA6):Prop :=
 match o.op with
 | .alloc e=>match zAB E.P e with
  | some z=>zE5 ann o (av z).cells K (zE4 E H ann o K a σ) a σ
  | none=>False
 | .box e x=>match zDO E.G a x with
  | .v v=>zE5 ann o v.cells K (zE4 E H ann o K a σ) a σ
  | .l _ _=>False
 | .load t x=>match zDO E.G a x with
  | .l k off=>match zAE E.P t (a.l k) off with
   | some v=>K (a.put o.dst (.v v)) σ
   | none=>False
  | .v _=>zE4 E H ann o K a σ
 | .store t x v=>match zDO E.G a x with
  | .l k off =>
   (zDO E.G a v).low.isUndef=false/\szT E.P t=some (zDO E.G a v).low.cells.length/\(zDO E.G a v).low.cells.all AV.one=true/\off+(zDO E.G a v).low.cells.length<=(a.l k).length/\o.dst=none /\
    K (a.setL k (zAF (a.l k) off (zDO E.G a v).low.cells)) σ
  | .v _=>zE4 E H ann o K a σ
 | .fieldAddr s x f=>match zDO E.G a x with
  | .l k off=>match fldT E.P s f with
   | some (_,p,m)=>if m=0 then False else K (a.put o.dst (.l k (off+p))) σ
   | none=>False
  | .v _=>zE4 E H ann o K a σ
 | .indexAddr t x i=>match zDO E.G a x with
  | .l k off=>match zDO E.G a i,arrT E.P t with
   | .v (.int _ j),some (len,e)=>match szT E.P e with
    | some sz=>0<=j/\j<len/\K (a.put o.dst (.l k (off+j.toNat*sz))) σ
    | none=>False
   | _,_=>False
  | .v _=>zE4 E H ann o K a σ
 | .nilCheck x=>match zDO E.G a x with
  | .l k off=>K (a.put o.dst (.l k off)) σ
  | .v _=>zE4 E H ann o K a σ
 | .move x=>match zDO E.G a x with
  | .l k off=>K (a.put o.dst (.l k off)) σ
  | .v _=>zE4 E H ann o K a σ
 | .assign x=>match zDO E.G a x with
  | .l k off=>K (a.put o.dst (.l k off)) σ
  | .v _=>zE4 E H ann o K a σ
 | _=>zE4 E H ann o K a σ

def zDN.setB (a:zDN) (d:Nat) (b:Bool):zDN:={ a with t:=fun j=>if j=d then .v (.bool b) else a.t j }

def zE6 (E:Env) (H:zDY) (ann:Ann) (ops:Array Oper) (o:Oper) (K:zE3) (a:zDN) (σ:zA6):Prop :=
 match o.guard with
 | none=>goS E H ann o K a σ
 | some (j,want)=>match (ops[j]?).bind (·.dst) with
  | none=>K (a.put o.dst (.v (.tuple []))) σ
  | some d=>match (a.t d).low with
   | .bool b=>bcase b
     (if want then goS E H ann o K (a.setB d true) σ else K ((a.setB d true).put o.dst (.v (.tuple []))) σ)
     (if want then K ((a.setB d false).put o.dst (.v (.tuple []))) σ else goS E H ann o K (a.setB d false) σ)
   | .undef=>False
   | _=>K (a.put o.dst (.v (.tuple []))) σ

def opsS (E:Env) (H:zDY) (an:zDM) (id:Nat) (ops:Array Oper):List Oper->Nat->zE3->zDN->zA6->Prop
 | [],_,K,a,σ=>K a σ
 | o :: l,i,K,a,σ=>zE6 E H (an.ann id i) ops o (fun a σ=>opsS E H an id ops l (i+1) K a σ) a σ

def zE7 (n:Nat) (ops:Array Oper):Bool:=ops.all (zDR n)

theorem zE8 {n:Nat} {ops:Array Oper} (h:zE7 n ops=true) {j d:Nat} (hd:(ops[j]?).bind (·.dst)=some d):d<n:=by
 cases ho:ops[j]? with
 | none=>simp [ho] at hd
 | some o =>
  simp [ho] at hd
  have hm:o∈ops:=Array.mem_of_getElem? ho
  have:=Array.all_eq_true_iff_forall_mem.1 h o hm
  unfold zDR at this
  rw [hd] at this
  simpa using this

section
variable {E:Env} {H:zDY} {rd:Option Nat} {F:Fence} {n:Nat} {an:zDM} {R0:Nat->Option Obj} {loc:Nat->Option Nat} {g:zA2} {w:World} {σ:zA6} {a:zDN} {act:Act}
theorem Fr.setB (h:Fr n R0 E.B g loc a act) {d:Nat} {b:Bool} (hd:(a.t d).low = .bool b):Fr n R0 E.B g loc (a.setB d b) act:=by
 refine ⟨h.size,h.marks,fun t => ?_,h.cell,h.inj,h.sub⟩
 show RVt g loc (if t=d then .v (.bool b) else a.t t) _
 split
 ·rename_i e; subst e
  have:=(h.tmp t).low
  rw [hd] at this; exact this
 ·exact h.tmp t


def zE9 (E:Env) (n:Nat) (R0:Nat->Option Obj) (g:zA2) (K:zE3) (next:Act->World->Prop):Prop :=
 ∀ g' a' σ' act' w' loc',g.LeX g'->Sim E.B E.w0 g' σ' w'->Fr n R0 E.B g' loc' a' act'->K a' σ'->next act' w'

theorem gen_ok {o:Oper} {Q:zDW} {g0:zA2} {next:Act->World->Prop} {K:zE3} {ann:Ann}
  (hH:HOk E H) (hF:zDT g rd F) (hG:zBM g E.G) (hS:Sim E.B E.w0 g σ w) (hT:Fr n R0 E.B g loc a act) (ho:zDR n o=true)
  (h:zE4 E H ann o K a σ) (hK:zE9 E n R0 g K next):o.wpIn F 0 E.P act w next (zDX E n R0 g0 Q):=by
 unfold zE4 at h
 have hop:=opF_ok (P:=E.P) hS hG hT.relT ann o
 have hnd:∀ r,zDL E.P ann o (zAA E.G a.low) σ=r->r ≠ .fail->∀ c,o.op ≠ .defer c:=by
  intro r hr hne c hc
  unfold zDL at hr
  rw [hc] at hr
  simp only [aop] at hr
  exact hne hr.symm
 split at h
 ·rename_i v σ' hr'
  rw [hr'] at hop
  obtain ⟨g',w',u,nx,h1,h2,h3,h4,h5⟩:=hop
  refine zDU hF (hnd _ hr' (by simp)) ?_
  rw [h4]
  rcases h5 with rfl | ⟨rfl,rfl⟩
  ·exact hK g' _ σ' _ w' loc h1.x h2 ((hT.mono h1).put ho (v:=.v v) h3) h
  ·exact hK g' _ σ' _ w' loc h1.x h2 ((hT.mono h1).put ho (v:=.v v) h3) h
 ·rename_i t args hr'
  rw [hr'] at hop
  have next_ok:∀ e w',zDS E g (fun v σ'=>K (a.put o.dst (.v v)) σ') e w'->(match e,w' with
    | .returned v,w''=>next (act.put o.dst v) w''
    | .panicked chain,w''=>zDX E n R0 g0 Q (.panic chain) act w''
    | .outgrown,_=>LetsOut (zDX E n R0 g0 Q):Prop):=by
   intro e w' k
   cases e with
   | returned v =>
    obtain ⟨g',σ',r,k1,k2,k3,k4⟩:=k
    exact hK g' _ σ' _ w' loc k1.x k2 ((hT.mono k1).put ho (v:=.v r) k3) k4
   | outgrown=>exact k.elim
   | panicked c=>exact k.elim
  cases t with
  | fn f =>
   obtain ⟨vs,h1,h2⟩:=hop
   refine zDU hF (hnd _ hr' (by simp)) ?_
   rw [h1]
   exact ⟨fun h=>(by rw [hF.depth] at h; cases h),hF.calls (((hH.ok _ _ _ _ h).run g w vs hG hS h2).mono next_ok)⟩
  | yield id =>
   obtain ⟨vs,i,hi,h1,h2⟩:=hop
   refine zDU hF (hnd _ hr' (by simp)) ?_
   obtain ⟨f,tmps,assign,body,h3,h4⟩:=(hH.ok _ _ _ _ h).run g w vs i rd F hF hG hS hi h2
   rw [h1,h3]
   exact ⟨fun h=>(by rw [hF.depth] at h; cases h),h4.mono next_ok⟩
 ·exact h.elim
 ·rename_i v1 σ1 v2 σ2 hr'
  rw [hr'] at hop
  obtain ⟨g',w',u,nx,h1,h2,h4,h5⟩:=hop
  refine zDU hF (hnd _ hr' (by simp)) ?_
  rw [h4]
  have key:∃ v σ',Sim E.B E.w0 g' σ' w'/\RV g' v u/\K (a.put o.dst (.v v)) σ':=by
   rcases h2 with ⟨k1,k2⟩ | ⟨k1,k2⟩
   ·exact ⟨v1,σ1,k1,k2,h.1⟩
   ·exact ⟨v2,σ2,k1,k2,h.2⟩
  obtain ⟨v,σ',k1,k2,k3⟩:=key
  rcases h5 with rfl | ⟨rfl,rfl⟩
  ·exact hK g' _ σ' _ w' loc h1.x k1 ((hT.mono h1).put ho (v:=.v v) k2) k3
  ·exact hK g' _ σ' _ w' loc h1.x k1 ((hT.mono h1).put ho (v:=.v v) k2) k3

theorem Fr.newL (hS:Sim E.B E.w0 g σ w) (hT:Fr n R0 E.B g loc a act) {d e:Nat} (hd:d<n) {cs:List AV} {c:Array Value} (hr:RVL g cs c.toList) (h1:cs.all AV.one=true) :
  Fr n R0 E.B (g.setR w.heap.size (.cells c e (0,0))) (fun k=>if k=d then some w.heap.size else loc k) (a.newL d cs) (act.put (some d) (.pointer (some ⟨w.heap.size,0,none⟩))):=by
 have hx:=zA2.leX_setR g w.heap.size (.cells c e (0,0))
 have hb:∀ k b,loc k=some b->b<w.heap.size:=fun k b hk=>by
  obtain ⟨_,_,c,e,h3,_⟩:=hT.cell k b hk
  exact (Array.getElem?_eq_some_iff.1 (hS.res b _ h3)).1
 refine ⟨by simp [Act.put,hT.size],hT.marks.turn (fun r hr _=>by
  have:r<w.heap.size:=(Array.getElem?_eq_some_iff.1 (hS.res r _ hr)).1
  show (if r=w.heap.size then _ else g.R r)=_
  rw [if_neg (by omega)]; exact hr),fun j => ?_,fun k b hk => ?_,fun k j b hk hj => ?_,fun b o hb0 => ?_⟩
 ·show RVt _ _ (if j=d then TV.l d 0 else (a.t j).kill d) ((act.tmps.setIfInBounds d _).getD j undef)
  by_cases ej:j=d
  ·subst ej
   have hlt:j<act.tmps.size:=by rw [hT.size]; exact hd
   rw [if_pos rfl]
   refine ⟨w.heap.size,by simp,?_⟩
   simp [Array.getD_eq_getD_getElem?,hlt]
  ·rw [if_neg ej]
   have:=hT.tmp j
   have hget:(act.tmps.setIfInBounds d (.pointer (some ⟨w.heap.size,0,none⟩))).getD j undef=act.tmps.getD j undef:=by
    simp [Array.getD_eq_getD_getElem?,Array.getElem?_setIfInBounds_ne (Ne.symm ej)]
   rw [hget]
   generalize a.t j=x at this
   cases x with
   | v y=>exact RV.monoX hx this
   | l k off =>
    obtain ⟨b,h2,h3⟩:=this
    simp only [TV.kill]
    split
    ·exact RV.undef _
    ·rename_i hne; exact ⟨b,by simp [hne,h2],h3⟩
 ·change (if k=d then some w.heap.size else loc k)=some b at hk
  split at hk
  ·rename_i ek; subst ek; cases hk
   refine ⟨hS.size,?_,c,e,by simp [zA2.setR],?_,?_⟩
   ·cases hv:R0 w.heap.size with
    | none=>rfl
    | some x=>have:=hT.sub _ _ hv; rw [hS.R_new] at this; cases this
   ·show RVL _ (if k=k then cs else a.l k) _
    rw [if_pos rfl]; exact hr.monoX hx
   ·show (if k=k then cs else a.l k).all AV.one=true
    rw [if_pos rfl]; exact h1
  ·rename_i hne
   obtain ⟨h2,h3,c',e',h4,h5,h6⟩:=hT.cell k b hk
   have hlt:=hb k b hk
   refine ⟨h2,h3,c',e',?_,?_,?_⟩
   ·show (if b=w.heap.size then _ else g.R b)=_
    rw [if_neg (by omega)]; exact h4
   ·show RVL _ (if k=d then cs else a.l k) _
    rw [if_neg hne]; exact h5.monoX hx
   ·show (if k=d then cs else a.l k).all AV.one=true
    rw [if_neg hne]; exact h6
 ·change (if k=d then some w.heap.size else loc k)=some b at hk
  change (if j=d then some w.heap.size else loc j)=some b at hj
  split at hk <;> split at hj
  ·rename_i e1 e2; rw [e1,e2]
  ·rename_i e1 e2; cases hk; have:=hb j _ hj; omega
  ·rename_i e1 e2; cases hj; have:=hb k _ hk; omega
  ·exact hT.inj k j b hk hj
 ·show (if b=w.heap.size then _ else g.R b)=_
  have hlt:b<w.heap.size:=(Array.getElem?_eq_some_iff.1 (hS.res b o (hT.sub b o hb0))).1
  rw [if_neg (by omega)]; exact hT.sub b o hb0

theorem Fr.setL (hS:Sim E.B E.w0 g σ w) (hT:Fr n R0 E.B g loc a act) {k b e:Nat} (hk:loc k=some b) {c c':Array Value} (hc:g.R b=some (.cells c e (0,0))) {cs':List AV} (hr:RVL g cs' c'.toList) (h1:cs'.all AV.one=true) :
  Fr n R0 E.B (g.setR b (.cells c' e (0,0))) loc (a.setL k cs') act:=by
 have hx:=zA2.leX_setR g b (.cells c' e (0,0))
 refine ⟨hT.size,hT.marks.turn (fun r hr _=>by
  show (if r=b then _ else g.R r)=_
  rw [if_neg (by rintro rfl; rw [hc] at hr; cases hr)]; exact hr),fun t=>(hT.tmp t).mono hx,fun j bj hj => ?_,hT.inj,fun b' o hb => ?_⟩
 ·obtain ⟨h2,h3,cj,ej,h4,h5,h6⟩:=hT.cell j bj hj
  by_cases hjk:j=k
  ·subst hjk
   rw [hk] at hj; cases hj
   refine ⟨h2,h3,c',e,by simp [zA2.setR],?_,?_⟩
   ·show RVL _ (if j=j then cs' else a.l j) _
    rw [if_pos rfl]; exact hr.monoX hx
   ·show (if j=j then cs' else a.l j).all AV.one=true
    rw [if_pos rfl]; exact h1
  ·have hne:bj≠b:=fun e=>hjk (hT.inj j k b (e ▸ hj) hk)
   refine ⟨h2,h3,cj,ej,?_,?_,?_⟩
   ·show (if bj=b then _ else g.R bj)=_
    rw [if_neg hne]; exact h4
   ·show RVL _ (if j=k then cs' else a.l j) _
    rw [if_neg hjk]; exact h5.monoX hx
   ·show (if j=k then cs' else a.l j).all AV.one=true
    rw [if_neg hjk]; exact h6
 ·obtain ⟨_,h3,_⟩:=hT.cell k b hk
  have hne:b'≠b:=by intro e; subst e; rw [h3] at hb; cases hb
  show (if b'=b then _ else g.R b')=_
  rw [if_neg hne]; exact hT.sub b' o hb

theorem zEA {o:Oper} {Q:zDW} {g0:zA2} {next:Act->World->Prop} {K:zE3} {ann:Ann} {e:Nat} {cs:List AV} {c:Array Value} {gen:Prop}
  (hH:HOk E H) (hF:zDT g rd F) (hG:zBM g E.G) (hS:Sim E.B E.w0 g σ w) (hT:Fr n R0 E.B g loc a act) (ho:zDR n o=true) (hr:RVL g cs c.toList)
  (hrun:(execOp act.eval o).run E.P w = .ok (.value (.pointer (some ⟨w.heap.size,0,none⟩))) (w.alloc (.cells c e)))
  (hgen:gen->o.wpIn F 0 E.P act w next (zDX E n R0 g0 Q)) (h:zE5 ann o cs K gen a σ) (hK:zE9 E n R0 g K next):o.wpIn F 0 E.P act w next (zDX E n R0 g0 Q):=by
 unfold zE5 at h
 split at h
 ·rename_i d hd
  unfold zDR at ho
  rw [hd] at ho
  simp at ho
  obtain ⟨h1,h2⟩:=h
  have hnd:∀ c,o.op ≠ .defer c:=by
   intro c hc
   obtain ⟨d1,op,d3,d4,d5,d6⟩:=o
   simp only at hc
   subst hc
   simp only [execOp,Sem.run_bind] at hrun
   generalize (resolve act.eval c d3).run E.P w=r at hrun
   cases r <;> cases hrun
  refine zDU hF hnd ?_
  rw [hrun]
  show next (act.put o.dst _) _
  rw [hd]
  exact hK _ _ σ _ _ _ (zA2.leX_setR g _ _) (hS.newLocal _) (hT.newL hS ho hr h1) h2
 ·exact hgen h

theorem go_ok {o:Oper} {Q:zDW} {g0:zA2} {next:Act->World->Prop} {K:zE3} {ann:Ann}
  (hH:HOk E H) (hF:zDT g rd F) (hG:zBM g E.G) (hS:Sim E.B E.w0 g σ w) (hT:Fr n R0 E.B g loc a act) (ho:zDR n o=true)
  (h:goS E H ann o K a σ) (hK:zE9 E n R0 g K next):o.wpIn F 0 E.P act w next (zDX E n R0 g0 Q):=by
 have hgen:zE4 E H ann o K a σ->o.wpIn F 0 E.P act w next (zDX E n R0 g0 Q):=fun k=>gen_ok hH hF hG hS hT ho k hK
 have R:=fun x=>zDQ hG hT x
 -- an address of the frame's own,moved
 have hmv:∀ {x:Operand} {k off p:Nat},zDO E.G a x = .l k off->∃ b,loc k=some b/\act.eval x = .pointer (some ⟨b,off,none⟩):=fun {x k off p} hx=>by
  have:=R x; rw [hx] at this; exact this
 unfold goS at h
 obtain ⟨dst,op,type,pos,after,guard⟩:=o
 cases op with
 | alloc e =>
  dsimp only at h
  split at h
  ·rename_i z hz
   by_cases hne:av z = .undef
   ·unfold zE5 at h
    split at h
    ·rw [hne] at h; simp [AV.cells,AV.one] at h
    ·exact hgen h
   ·refine zEA (e:=e) (c:=z.cells) hH hF hG hS hT ho ((zBL g z).cells hne) ?_ hgen h hK
    simp only [execOp,Instr.alloc,Sem.run_bind,zD6 hz w,Result.andThen_ok]
    rfl
  ·exact h.elim
 | box e x =>
  dsimp only at h
  split at h
  ·rename_i v hx
   have hv:=R x
   rw [hx] at hv
   by_cases hne:v = .undef
   ·unfold zE5 at h
    split at h
    ·rw [hne] at h; simp [AV.cells,AV.one] at h
    ·exact hgen h
   ·exact zEA (e:=e) (c:=(act.eval x).cells) hH hF hG hS hT ho (RV.cells hv hne) rfl hgen h hK
  ·exact h.elim
 | load t x =>
  dsimp only at h
  split at h
  ·rename_i k off hx
   split at h
   ·rename_i v hv
    obtain ⟨b,hb,he⟩:=hmv (p:=0) hx
    obtain ⟨_,_,c,e,h3,h4,_⟩:=hT.cell k b hb
    have hh:=hS.res b _ h3
    obtain ⟨u',h5,h6⟩:=zBS hv h4 (b:=b) (o:=0) (w:=w) (fun j hj=>by
     have:j<c.size:=by simpa using hj
     simp [World.cell?,hh,this])
    rw [Nat.zero_add] at h5
    refine zDU hF (by intro c h; cases h) ?_
    simp only [execOp,he,Instr.loadAt,Instr.sureAddr,Sem.run_bind,Sem.run_pure,Result.andThen_ok,h5]
    exact hK g _ σ _ w loc (.refl g) hS (hT.put ho (v:=.v v) h6) h
   ·exact h.elim
  ·exact hgen h
 | store t x v =>
  dsimp only at h
  split at h
  ·rename_i k off hx
   obtain ⟨h1,h2,h3,h4,h5,h6⟩:=h
   subst h5
   obtain ⟨b,hb,he⟩:=hmv (p:=0) hx
   obtain ⟨hB,hR0,c,e,hc,hrc,hone⟩:=hT.cell k b hb
   have hh:=hS.res b _ hc
   have hne:(zDO E.G a v).low ≠ .undef:=by intro e0; rw [e0] at h1; simp [AV.isUndef] at h1
   have hcv:=(RVt.low (R v)).cells hne
   generalize hvv:(zDO E.G a v).low=vv at *
   generalize hy:act.eval v=y at *
   have hlen:y.cells.toList.length=vv.cells.length:=hcv.1.symm
   have hcl:c.size=(a.l k).length:=by simpa using hrc.1.symm
   have hst:=run_storeCells_at E.P b off e y.cells.toList 0 c w hh (by rw [hlen]; simp only [Nat.add_zero]; omega) (hcv.one h3)
   simp only [Nat.add_zero] at hst
   have hszr:(sizeOf t).run E.P w = .ok y.cells.size w:=by
    have:=zBQ h2 w
    rw [this]; congr 1; simpa using hlen.symm
   refine zDU hF (by intro c h; cases h) ?_
   have hrun:(execOp act.eval { dst:=none,op:=.store t x v,type:=type,pos:=pos,after:=after,guard:=guard }).run E.P w = .ok .skip (w.setRow b (c.toList.take off++y.cells.toList++c.toList.drop (off+y.cells.toList.length)).toArray):=by
    simp only [execOp,he,hy,Instr.storeAt,Instr.sureAddr,storeVar,Sem.run_bind,Sem.run_pure,Result.andThen_ok,hszr,ne_eq,not_true_eq_false,if_false,hst]
   rw [hrun]
   have hspl:=hrc.splice hcv off
   refine hK _ _ σ _ _ loc (zA2.leX_setR g b _) (hS.setLocal hc hB _) (hT.setL hS hb hc (by simpa using hspl) ?_) h6
   unfold zAF
   rw [List.all_append,List.all_append,h3]
   rw [List.all_eq_true] at hone
   simp only [Bool.and_true,Bool.and_eq_true,List.all_eq_true]
   exact ⟨fun z hz=>hone z (List.mem_of_mem_take hz),fun z hz=>hone z (List.mem_of_mem_drop hz)⟩
  ·exact hgen h
 | fieldAddr s x f =>
  dsimp only at h
  split at h
  ·rename_i k off hx
   split at h
   ·rename_i t p m hf
    split at h
    ·exact h.elim
    ·rename_i hm
     obtain ⟨b,hb,he⟩:=hmv (p:=0) hx
     obtain ⟨fs,fd,hu,hfd,rfl,rfl,hz⟩:=zCE hf
     refine zDU hF (by intro c h; cases h) ?_
     simp only [execOp,he,Instr.fieldAt,Sem.run_bind,run_underlying hu,Result.andThen_ok,hfd,Instr.sureAddr,Sem.run_pure,fieldPlace,zBQ hz w,hm,if_false,zBJ]
     exact hK g _ σ _ w loc (.refl g) hS (hT.put ho (v:=.l k (off+fd.offset)) ⟨b,hb,rfl⟩) h
   ·exact h.elim
  ·exact hgen h
 | indexAddr t x i =>
  dsimp only at h
  split at h
  ·rename_i k off hx
   split at h
   ·rename_i ik j len e hi ha
    split at h
    ·rename_i sz hz
     obtain ⟨h1,h2,h3⟩:=h
     obtain ⟨b,hb,he⟩:=hmv (p:=0) hx
     have hiv:=R i
     rw [hi] at hiv
     have hie:act.eval i = .int ik j:=by
      generalize act.eval i=q at hiv
      cases hiv; rfl
     have hu:E.P.underlying t=some (.array len e):=by
      unfold arrT at ha
      split at ha
      ·rename_i n' e' hu; cases ha; exact hu
      ·cases ha
     refine zDU hF (by intro c h; cases h) ?_
     have hcond:(0<=j/\j<((len:Nat):Int)):=⟨h1,h2⟩
     simp only [execOp,he,hie,Instr.indexAt,asIntOf,Sem.run_bind,Sem.run_pure,Result.andThen_ok,run_underlying hu,hcond,and_self,if_true,zBQ hz w,Instr.sureAddr,zBJ]
     exact hK g _ σ _ w loc (.refl g) hS (hT.put ho (v:=.l k (off+j.toNat*sz)) ⟨b,hb,rfl⟩) h3
    ·exact h.elim
   ·exact h.elim
  ·exact hgen h
 | nilCheck x =>
  dsimp only at h
  split at h
  ·rename_i k off hx
   obtain ⟨b,hb,he⟩:=hmv (p:=0) hx
   refine zDU hF (by intro c h; cases h) ?_
   have hrun:(execOp act.eval { dst:=dst,op:=.nilCheck x,type:=type,pos:=pos,after:=after,guard:=guard }).run E.P w = .ok (.value (.pointer (some ⟨b,off,none⟩))) w:=by simp only [execOp,he]; rfl
   rw [hrun]
   exact hK g _ σ _ w loc (.refl g) hS (hT.put ho (v:=.l k off) ⟨b,hb,rfl⟩) h
  ·exact hgen h
 | move x =>
  dsimp only at h
  split at h
  ·rename_i k off hx
   obtain ⟨b,hb,he⟩:=hmv (p:=0) hx
   refine zDU hF (by intro c h; cases h) ?_
   have hrun:(execOp act.eval { dst:=dst,op:=.move x,type:=type,pos:=pos,after:=after,guard:=guard }).run E.P w = .ok (.value (.pointer (some ⟨b,off,none⟩))) w:=by simp only [execOp,he]; rfl
   rw [hrun]
   exact hK g _ σ _ w loc (.refl g) hS (hT.put ho (v:=.l k off) ⟨b,hb,rfl⟩) h
  ·exact hgen h
 | assign x =>
  dsimp only at h
  split at h
  ·rename_i k off hx
   obtain ⟨b,hb,he⟩:=hmv (p:=0) hx
   refine zDU hF (by intro c h; cases h) ?_
   have hrun:(execOp act.eval { dst:=dst,op:=.assign x,type:=type,pos:=pos,after:=after,guard:=guard }).run E.P w = .ok (.value (.pointer (some ⟨b,off,none⟩))) w:=by simp only [execOp,he]; rfl
   rw [hrun]
   exact hK g _ σ _ w loc (.refl g) hS (hT.put ho (v:=.l k off) ⟨b,hb,rfl⟩) h
  ·exact hgen h
 | _=>exact hgen h

end
end Go.V
namespace Go.V
open Go.RowKit

section
variable {E:Env} {H:zDY} {rd:Option Nat} {F:Fence} {n:Nat} {an:zDM} {R0:Nat->Option Obj} {loc:Nat->Option Nat} {g:zA2} {w:World} {σ:zA6} {a:zDN} {act:Act}
theorem zEB {ops:Array Oper} {o:Oper} {Q:zDW} {g0:zA2} {next:Act->World->Prop} {K:zE3} {ann:Ann}
  (hH:HOk E H) (hF:zDT g rd F) (hG:zBM g E.G) (hS:Sim E.B E.w0 g σ w) (hT:Fr n R0 E.B g loc a act) (hr:zE7 n ops=true) (ho:zDR n o=true)
  (h:zE6 E H ann ops o K a σ) (hK:zE9 E n R0 g K next) :
  if Region.wanted o (yielded ops act.tmps) then o.wpIn F 0 E.P act w next (zDX E n R0 g0 Q) else (∀ f,o.about E.P w act.eval=some f->F.fn f)/\next (act.put o.dst undef) w:=by
 unfold zE6 at h
 have skip:∀ {a':zDN},Fr n R0 E.B g loc a' act->K (a'.put o.dst (.v (.tuple []))) σ->(∀ f,o.about E.P w act.eval=some f->F.fn f)/\next (act.put o.dst undef) w:=fun hT' k =>
  ⟨fun f _=>hF.fn f,hK g _ σ _ w loc (.refl g) hS (hT'.put ho (v:=.v (.tuple [])) (u:=undef) (RV.tuple' (.nil g))) k⟩
 cases hg:o.guard with
 | none =>
  rw [hg] at h
  have:Region.wanted o (yielded ops act.tmps)=true:=by unfold Region.wanted; rw [hg]
  rw [this]
  simp only [if_true]
  exact (go_ok hH hF hG hS hT ho h hK)
 | some jw =>
  obtain ⟨j,want⟩:=jw
  rw [hg] at h
  dsimp only at h
  cases hdst:(ops[j]?).bind (·.dst) with
  | none =>
   rw [hdst] at h
   have:Region.wanted o (yielded ops act.tmps)=false:=by unfold Region.wanted; rw [hg]; simp only [yielded,hdst]; rfl
   rw [this]
   simp only [Bool.false_eq_true,if_false]
   exact skip hT h
  | some d =>
   rw [hdst] at h
   dsimp only at h
   have hlt:d<n:=zE8 hr hdst
   have ht:=(hT.tmp d).low
   have hlt':d<act.tmps.size:=by rw [hT.size]; exact hlt
   have hget:act.tmps.getD d undef=act.tmps[d]:=by simp [Array.getD_eq_getD_getElem?,hlt']
   rw [hget] at ht
   have hw:Region.wanted o (yielded ops act.tmps)=((match some act.tmps[d] with | some (Value.bool b)=>some b | _=>none)==some want):=by
    unfold Region.wanted; rw [hg]; simp only [yielded,hdst,Option.bind_some]; rw [Array.getElem?_eq_getElem hlt']
    generalize act.tmps[d]=v
    cases v <;> rfl
   rw [hw]
   have hb:∀ b,(a.t d).low = .bool b->Fr n R0 E.B g loc (a.setB d b) act:=fun b=>hT.setB
   generalize (a.t d).low=x at ht h hb
   generalize act.tmps[d]=v at ht
   cases x
   case bool b =>
    cases ht
    have hT':=hb b rfl
    cases b <;> cases want
    ·have e:(some false==some false)=true:=rfl
     simp only [e,if_true]
     exact (go_ok hH hF hG hS hT' ho h hK)
    ·have e:(some false==some true)=false:=rfl
     simp only [e,Bool.false_eq_true,if_false]
     exact skip hT' h
    ·have e:(some true==some false)=false:=rfl
     simp only [e,Bool.false_eq_true,if_false]
     exact skip hT' h
    ·have e:(some true==some true)=true:=rfl
     simp only [e,if_true]
     exact (go_ok hH hF hG hS hT' ho h hK)
   case undef=>exact h.elim
   all_goals (cases ht <;> exact skip hT h)

theorem ops_ok {ops:Array Oper} {id:Nat} (hH:HOk E H) {g0:zA2} (hF:zDT g0 rd F) (hr:zE7 n ops=true) {Q:zDW} :
  ∀ (l:List Oper) (i:Nat),(∀ j,ops[i+j]? = l[j]?)->∀ (K:zE3) (g:zA2) (w:World) (σ:zA6) (a:zDN) (act:Act) (loc:Nat->Option Nat),g0.LeX g->zBM g E.G->Sim E.B E.w0 g σ w->Fr n R0 E.B g loc a act ->
   opsS E H an id ops l i K a σ->(∀ a σ,K a σ->Q .normal a σ)->wpOpsIn F 0 E.P ops (zDX E n R0 g0 Q) (List.range' i l.length) act w
 | [],i,_,K,g,w,σ,a,act,loc,hle,hG,hS,hT,h,hQ=>⟨g,a,σ,loc,hle,hS,hT,hQ _ _ h⟩
 | o :: l,i,hl,K,g,w,σ,a,act,loc,hle,hG,hS,hT,h,hQ=>by
  have ho:ops[i]? = some o:=by have:=hl 0; simpa using this
  have hmem:o∈ops:=Array.mem_of_getElem? ho
  have hdo:zDR n o=true:=Array.all_eq_true_iff_forall_mem.1 hr o hmem
  rw [List.length_cons,List.range'_succ]
  simp only [wpOpsIn,ho]
  exact zEB hH (hF.mono hle) hG hS hT hr hdo h fun g' a' σ' act' w' loc' h1 h2 h3 h4 =>
   ops_ok hH hF hr l (i+1) (fun j=>by have:=hl (j+1); rw [show i+(j+1)=i+1+j by omega] at this; simpa using this) K g' w' σ' a' act' loc' (hle.trans h1) (hG.monoX h1) h2 h3 h4 hQ

theorem zEC {ops:Array Oper} {id:Nat} {Q:zDW} (hH:HOk E H) (hr:zE7 n ops=true)
  (h:opsS E H an id ops ops.toList 0 (Q .normal) a σ):AWp E rd n (.region id ops false) Q a σ:=by
 refine ⟨fun g w act loc R0 F hF hG hS hT => ?_⟩
 refine wpIn_region ?_
 have:=ops_ok (an:=an) hH hF hr (Q:=Q) (g0:=g) ops.toList 0 (fun j=>by simp) (Q .normal) g w σ a act loc (.refl g) hG hS hT h (fun _ _ h=>h)
 rw [List.range_eq_range']
 simpa using this

theorem zED {Q:zDW} (h:Q .normal a σ):AWp E rd n .skip Q a σ :=
 ⟨fun g w act loc R0 F hF hG hS hT=>wpIn_skip ⟨g,a,σ,loc,.refl g,hS,hT,h⟩⟩
theorem zEE {id:Nat} {Q:zDW} (h:Q (.exit id) a σ):AWp E rd n (.exit id) Q a σ :=
 ⟨fun g w act loc R0 F hF hG hS hT=>wpIn_exit ⟨g,a,σ,loc,.refl g,hS,hT,h⟩⟩
theorem zEF {Q:zDW} (h:Q .ret a σ):AWp E rd n .ret Q a σ :=
 ⟨fun g w act loc R0 F hF hG hS hT=>wpIn_ret ⟨g,a,σ,loc,.refl g,hS,hT,h⟩⟩

theorem zEG {x y:Code} {Q:zDW}
  (h:AWp E rd n x (fun e a σ=>match e with | .normal=>AWp E rd n y Q a σ | e=>Q e a σ) a σ):AWp E rd n (.seq x y) Q a σ:=by
 refine ⟨fun g w act loc R0 F hF hG hS hT => ?_⟩
 refine wpIn_seq (wpIn_mono (h.run g w act loc R0 F hF hG hS hT) fun e act' w' k => ?_)
 cases e with
 | normal =>
  obtain ⟨g',a',σ',loc',h1,h2,h3,h4⟩:=k
  exact wpIn_mono (h4.run g' w' act' loc' R0 F (hF.mono h1) (hG.monoX h1) h2 h3) fun e act'' w'' k=>k.le h1
 | exit id=>exact k
 | goto l=>exact k
 | ret=>exact k
 | panic c=>exact k
 | outgrown=>exact k.elim

theorem zEH {c:Operand} {x y:Code} {Q:zDW} {b:Bool} (hc:(zDO E.G a c).low = .bool b) (ht:b=true->AWp E rd n x Q a σ) (hf:b=false->AWp E rd n y Q a σ):AWp E rd n (.cond c x y) Q a σ:=by
 refine ⟨fun g w act loc R0 F hF hG hS hT => ?_⟩
 have h1:=(zDQ hG hT c).low
 rw [hc] at h1
 have h2:act.eval c = .bool b:=by cases hh:act.eval c <;> rw [hh] at h1 <;> cases h1; rfl
 exact wpIn_cond_split h2 (fun h=>(ht h).run g w act loc R0 F hF hG hS hT) (fun h=>(hf h).run g w act loc R0 F hF hG hS hT)

theorem zEI {id:Nat} {c:Code} {Q:zDW}
  (h:AWp E rd n c (fun e a σ=>match e with | .exit id'=>if id'=id then Q .normal a σ else Q (.exit id') a σ | e=>Q e a σ) a σ):AWp E rd n (.block id c) Q a σ:=by
 refine ⟨fun g w act loc R0 F hF hG hS hT => ?_⟩
 refine wpIn_block (wpIn_mono (h.run g w act loc R0 F hF hG hS hT) fun e act' w' k => ?_)
 cases e with
 | exit id' =>
  obtain ⟨g',a',σ',loc',h1,h2,h3,h4⟩:=k
  simp only [Exit.inBlock]
  by_cases e:id'=id
  ·simp only [e,if_true] at h4 ⊢; exact ⟨g',a',σ',loc',h1,h2,h3,h4⟩
  ·simp only [e,if_false] at h4 ⊢; exact ⟨g',a',σ',loc',h1,h2,h3,h4⟩
 | normal=>exact k
 | goto l=>exact k
 | ret=>exact k
 | panic c=>exact k
 | outgrown=>exact k.elim

theorem zEJ (p:Nat->Prop) (h:∃ k,p k):∃ k,p k/\∀ j,p j->k<=j:=by
 obtain ⟨k,hk⟩:=h
 induction k using Nat.strongRecOn with
 | _ k ih =>
  by_cases h:∃ j,j<k/\p j
  ·obtain ⟨j,hj,hp⟩:=h; exact ih j hj hp
  ·exact ⟨k,hk,fun j hj=>by rcases Nat.lt_or_ge j k with h1 | h1; exact absurd ⟨j,h1,hj⟩ h; exact h1⟩

theorem zEK {c:Code} {Q:zDW} (I:Nat->zDN->zA6->Prop) {m:Nat} (h0:I m a σ)
  (hI:∀ m a σ,I m a σ->AWp E rd n c (fun e a' σ'=>match e with | .normal=>∃ m',m'<m/\I m' a' σ' | e=>Q e a' σ') a σ):AWp E rd n (.loop c) Q a σ:=by
 refine ⟨fun g w act loc R0 F hF hG hS hT => ?_⟩
 refine wpIn_loop (fun act w=>∃ m g' a σ loc,g.LeX g'/\Sim E.B E.w0 g' σ w/\Fr n R0 E.B g' loc a act/\I m a σ)
  (fun act w=>Classical.epsilon fun k=>(∃ g' a σ loc,g.LeX g'/\Sim E.B E.w0 g' σ w/\Fr n R0 E.B g' loc a act/\I k a σ)/\∀ j,(∃ g' a σ loc,g.LeX g'/\Sim E.B E.w0 g' σ w/\Fr n R0 E.B g' loc a act/\I j a σ)->k<=j) ⟨m,g,a,σ,loc,.refl g,hS,hT,h0⟩ ?_
 intro act w hex
 have hp:=Classical.epsilon_spec (zEJ (fun k=>∃ g' a σ loc,g.LeX g'/\Sim E.B E.w0 g' σ w/\Fr n R0 E.B g' loc a act/\I k a σ) hex)
 generalize hmu:(Classical.epsilon fun k=>(∃ g' a σ loc,g.LeX g'/\Sim E.B E.w0 g' σ w/\Fr n R0 E.B g' loc a act/\I k a σ)/\∀ j,(∃ g' a σ loc,g.LeX g'/\Sim E.B E.w0 g' σ w/\Fr n R0 E.B g' loc a act/\I j a σ)->k<=j)=mu at hp
 obtain ⟨⟨g',a,σ,loc,h1,h2,h3,h4⟩,_⟩:=hp
 refine wpIn_mono ((hI mu a σ h4).run g' w act loc R0 F (hF.mono h1) (hG.monoX h1) h2 h3) fun e act' w' k => ?_
 cases e with
 | normal =>
  obtain ⟨g'',a',σ',loc',k1,k2,k3,m',hm',k4⟩:=k
  refine ⟨⟨m',g'',a',σ',loc',h1.trans k1,k2,k3,k4⟩,?_⟩
  have hp':=Classical.epsilon_spec (zEJ (fun k=>∃ g' a σ loc,g.LeX g'/\Sim E.B E.w0 g' σ w'/\Fr n R0 E.B g' loc a act'/\I k a σ) ⟨m',g'',a',σ',loc',h1.trans k1,k2,k3,k4⟩)
  exact Nat.lt_of_le_of_lt (hp'.2 m' ⟨g'',a',σ',loc',h1.trans k1,k2,k3,k4⟩) hm'
 | exit id=>exact zDX.le h1 k
 | goto l=>exact zDX.le h1 k
 | ret=>exact zDX.le h1 k
 | panic c=>exact k
 | outgrown=>exact k.elim

end

def Wk (v v':AV):Prop:=∀ g u,RV g v u->RV g v' u
theorem Wk.refl (v:AV):Wk v v:=fun _ _ h=>h
theorem Wk.slice (sz:Nat) (xs:List AV) (m:Cap):Wk (.slice sz xs m) (.slice sz xs .any):=by
 intro g u h
 rcases h.slice_inv with ⟨a,cap,vs,rfl,hv⟩ | ⟨rfl,rfl,rfl⟩
 ·exact zCA.rv ⟨hv.hsz,hv.hr,hv.hsp,hv.hF,hv.h1,hv.hcap,trivial⟩
 ·exact .nilany sz
theorem Wk.nil (sz:Nat):Wk .nilslice (.slice sz [] .any):=by
 intro g u h
 cases h
 exact .nilany sz
inductive WkL:List AV->List AV->Prop where
 | nil:WkL [] []
 | cons {a b:AV} {as bs:List AV} (h:Wk a b) (hs:WkL as bs):WkL (a :: as) (b :: bs)
theorem WkL.refl:∀ as,WkL as as
 | [] => .nil
 | a :: as => .cons (.refl a) (.refl as)
theorem WkL.rv {as bs:List AV} (h:WkL as bs) {g:zA2} {us:List Value} (k:RVL g as us):RVL g bs us:=by
 induction h generalizing us with
 | nil=>exact k
 | cons h hs ih=>obtain ⟨u,us',rfl,h1,h2⟩:=k.cons_inv; exact .cons (h g u h1) (ih h2)
theorem Wk.agg {as bs:List AV} (h:WkL as bs):Wk (.agg as) (.agg bs):=fun g u r=>by
 obtain ⟨vs,rfl,k⟩:=r.agg_inv; exact .agg' (h.rv k)
theorem Wk.tuple {as bs:List AV} (h:WkL as bs):Wk (.tuple as) (.tuple bs):=fun g u r=>by
 obtain ⟨vs,rfl,k⟩:=r.tuple_inv; exact .tuple' (h.rv k)

def ares1 (P:Program) (a:zDN) (σ:zA6):ResultVar->Option AV
 | .tmp t=>some (a.t t).low
 | .cell x t=>match a.t x with
  | .l k off=>zAE P t (a.l k) off
  | .v p=>zAM P σ t p
def zEL (P:Program) (a:zDN) (σ:zA6):List ResultVar->Option (List AV)
 | []=>some []
 | r :: rs=>match ares1 P a σ r,zEL P a σ rs with
  | some v,some vs=>some (v :: vs)
  | _,_=>none
def ares (P:Program) (a:zDN) (σ:zA6) (rs:List ResultVar):Option AV :=
 match zEL P a σ rs with
 | some [v]=>some v
 | some vs=>some (.tuple vs)
 | none=>none

section
variable {E:Env} {n:Nat} {R0:Nat->Option Obj} {loc:Nat->Option Nat} {g:zA2} {σ:zA6} {w:World} {a:zDN} {act:Act}
theorem ares1_ok {P:Program} (hS:Sim E.B E.w0 g σ w) (hT:Fr n R0 E.B g loc a act) {r:ResultVar} {v:AV} (h:ares1 P a σ r=some v) :
  ∃ u,(match r with | .tmp t=>pure (act.tmps.getD t undef) | .cell a t=>do loadVar t (<-asAddr (act.tmps.getD a undef)):Sem Value).run P w = .ok u w/\RV g v u:=by
 cases r with
 | tmp t=>cases h; exact ⟨_,rfl,(hT.tmp t).low⟩
 | cell x t =>
  have hx:=hT.tmp x
  simp only [ares1] at h
  show ∃ u,(do loadVar t (<-asAddr (act.tmps.getD x undef)):Sem Value).run P w=_/\_
  generalize act.tmps.getD x undef=p at hx ⊢
  split at h
  ·rename_i k off hk
   rw [hk] at hx
   obtain ⟨b,hb,rfl⟩:=hx
   obtain ⟨_,_,c,e,h3,h4,_⟩:=hT.cell k b hb
   have hh:=hS.res b _ h3
   obtain ⟨u',h5,h6⟩:=zBS h h4 (b:=b) (o:=0) (w:=w) (fun j hj=>by
    have:j<c.size:=by simpa using hj
    simp [World.cell?,hh,this])
   rw [Nat.zero_add] at h5
   exact ⟨u',by simpa [asAddr] using h5,h6⟩
  ·rename_i q hk
   rw [hk] at hx
   obtain ⟨u,h1,h2⟩:=zBV hS hx h
   refine ⟨u,?_,h2⟩
   simp only [Instr.loadAt,Instr.sureAddr] at h1
   cases p with
   | pointer ad =>
    cases ad with
    | none=>simp at h1
    | some ad=>simpa [asAddr] using h1
   | _=>simp at h1

theorem zEM {P:Program} (hS:Sim E.B E.w0 g σ w) (hT:Fr n R0 E.B g loc a act):∀ {rs:List ResultVar} {vs:List AV},zEL P a σ rs=some vs ->
  ∃ us,(rs.mapM fun | .tmp t=>pure (act.tmps.getD t undef) | .cell a t=>do loadVar t (<-asAddr (act.tmps.getD a undef)):Sem (List Value)).run P w = .ok us w/\RVL g vs us
 | [],vs,h=>by simp only [zEL] at h; cases h; exact ⟨[],rfl,.nil g⟩
 | r :: rs,vs,h=>by
  simp only [zEL] at h
  split at h
  ·rename_i v vs' h1 h2
   cases h
   obtain ⟨u,k1,k2⟩:=ares1_ok hS hT h1
   obtain ⟨us,k3,k4⟩:=zEM hS hT h2
   refine ⟨u :: us,?_,.cons k2 k4⟩
   rw [List.mapM_cons]
   simp only [Sem.run_bind]
   cases r with
   | tmp t=>simp only at k1 ⊢; rw [k1]; simp only [Result.andThen_ok]; rw [k3]; rfl
   | cell x t=>simp only [Sem.run_bind] at k1 ⊢; rw [k1]; simp only [Result.andThen_ok]; rw [k3]; rfl
  ·cases h

theorem ares_ok {P:Program} (hS:Sim E.B E.w0 g σ w) (hT:Fr n R0 E.B g loc a act) {fn:Func} {v:AV} (h:ares P a σ fn.results.toList=some v) :
  ∃ u,(results fn act.tmps).run P w = .ok u w/\RV g v u:=by
 unfold ares at h
 have key:∀ vs,zEL P a σ fn.results.toList=some vs->∃ us:List Value,RVL g vs us/\(results fn act.tmps).run P w = .ok (if h:us.toArray.size=1 then us.toArray[0] else .tuple us.toArray) w:=by
  intro vs hvs
  obtain ⟨us,h1,h2⟩:=zEM hS hT hvs
  refine ⟨us,h2,?_⟩
  unfold results
  rw [Sem.run_bind,Array.mapM_eq_mapM_toList]
  simp only [Sem.run_map]
  erw [h1]
  rfl
 split at h
 ·rename_i v' hv
  cases h
  obtain ⟨us,h1,h2⟩:=key _ hv
  obtain ⟨u,us',rfl,h3,h4⟩:=h1.cons_inv
  have:=h4.nil_inv
  subst this
  exact ⟨u,by rw [h2]; rfl,h3⟩
 ·rename_i vs hne hv
  cases h
  obtain ⟨us,h1,h2⟩:=key _ hv
  have hl:us.toArray.size≠1:=by
   intro e
   have:vs.length=1:=by rw [h1.1]; simpa using e
   obtain ⟨x,rfl⟩:=List.length_eq_one_iff.1 this
   exact hne x rfl
  refine ⟨.tuple us.toArray,by rw [h2,dif_neg hl],.tuple' (by simpa using h1)⟩
 ·cases h

def zEN (args:List AV):zDN:={ t:=fun t => .v ((args[t]?).getD (.tuple [])),l:=fun _=>[] }

def bodyQ (P:Program) (rs:List ResultVar) (Q:AV->zA6->Prop):zDW
 | .normal,a,σ | .ret,a,σ=>∃ v v' σ',ares P a σ rs=some v/\Wk v v'/\σ'.Le σ/\Q v' σ'
 | _,_,_=>False

theorem zEO {fn:Func} {R:Ending->World->Prop} {act:Act} {u:Act->Prop}:∀ (ds:List Deferred) (g:zA2) (w:World),
  (∀ g' w',g.LeX g'->Sim E.B E.w0 g' σ w'->Fr n R0 E.B g' loc a { act with defers:=[] }->∃ v,(results fn act.tmps).run E.P w' = .ok v w'/\R (.returned v) w') ->
  Sim E.B E.w0 g σ w->Fr n R0 E.B g loc a { act with defers:=ds }->LeavesInM Fence.wide 0 E.P fn act.tmps R ds .returning w
 | [],g,w,fin,hS,hT=>fin g w (.refl g) hS hT
 | d :: ds,g,w,fin,hS,hT=>by
  obtain ⟨⟨r,h1,h2,h3,h4,h5⟩,h6⟩:=hT.marks
  have hx:=zA2.leX_setR g r (.deferred none)
  have hh:=hS.res r _ h4
  refine ⟨by simp,.inl ⟨r,{ w with heap:=w.heap.setIfInBounds r (.deferred none) },by rw [h1],?_,?_⟩⟩
  ·simp [Instr.takeDeferred,Sem.run_bind,getObj,setObj,Sem.run,hh]
  ·refine zEO (u:=u) ds (g.setR r (.deferred none)) _ (fun g' w' hle h7 h8=>fin g' w' (hx.trans hle) h7 h8) (hS.setMark h4 h2) ⟨hT.size,?_,fun t=>(hT.tmp t).mono hx,fun k b hk => ?_,hT.inj,fun b o hb => ?_⟩
   ·refine h6.turn fun r' hr' ⟨d',hd',hdr⟩ => ?_
    show (if r'=r then _ else g.R r')=_
    rw [if_neg (by rintro rfl; exact h5 d' hd' hdr)]; exact hr'
   ·obtain ⟨k1,k2,c,e,k3,k4,k5⟩:=hT.cell k b hk
    refine ⟨k1,k2,c,e,?_,k4.monoX hx,k5⟩
    show (if b=r then _ else g.R b)=_
    rw [if_neg (by rintro rfl; rw [h4] at k3; cases k3)]; exact k3
   ·show (if b=r then _ else g.R b)=_
    rw [if_neg (by rintro rfl; rw [h3] at hb; cases hb)]; exact hT.sub b o hb

theorem zEP {f:Nat} {fn:Func} {c:Code} {args:List AV} {Q:AV->zA6->Prop} (hf:E.P.funcs[f]? = some fn) (hb:fn.body=some c) (hn:args.length<=fn.ntmps)
  (h:AWp E none fn.ntmps c (bodyQ E.P fn.results.toList Q) (zEN args) σ):zDV E f args σ Q:=by
 refine ⟨fun g w vs hG hS hv => ?_⟩
 refine callsIn_wide.1 (callsIn_of_wp_marks (n:=0) hf hb trivial (wpIn_mono (h.run g w _ (fun _=>none) g.R Fence.wide rfl hG hS ⟨?_,trivial,fun t => ?_,(fun k b hk=>by cases hk),(fun k j b hk=>by cases hk),fun b o hb=>hb⟩) fun e act w' k => ?_) rfl)
 ·have:=hv.1
  simp only [Array.size_append,Array.size_replicate]
  have h2:vs.size=args.length:=by simpa using this.symm
  omega
 ·show RV g ((args[t]?).getD (.tuple [])) ((vs++Array.replicate _ undef).getD t undef)
  rcases Nat.lt_or_ge t args.length with ht | ht
  ·have ht':t<vs.size:=by have:=hv.1; simp at this; omega
   have h1:=hv.2 t ht (by simpa using ht')
   rw [List.getElem?_eq_getElem ht]
   simp only [Option.getD_some,Array.getD_eq_getD_getElem?]
   rw [Array.getElem?_append_left ht',Array.getElem?_eq_getElem ht']
   simpa using h1
  ·have ht':vs.size<=t:=by have:=hv.1; simp at this; omega
   rw [List.getElem?_eq_none ht]
   simp only [Option.getD_none,Array.getD_eq_getD_getElem?]
   rw [Array.getElem?_append_right ht']
   have:(Array.replicate (fn.ntmps - vs.size) undef)[t - vs.size]?.getD undef=undef:=by
    rw [Array.getElem?_replicate]; split <;> rfl
   rw [this]
   exact .tuple' (.nil g)
 ·have fin:∀ {a:zDN} {σ':zA6} {g':zA2} {loc:Nat->Option Nat},g.LeX g'->Sim E.B E.w0 g' σ' w'->Fr fn.ntmps g.R E.B g' loc a act->(∃ v v' σ'',ares E.P a σ' fn.results.toList=some v/\Wk v v'/\σ''.Le σ'/\Q v' σ'') ->
    LeavesInM Fence.wide 0 E.P fn act.tmps (zDS E g Q) act.defers .returning w':=by
   intro a σ' g' loc h1 h2 h3 ⟨v,v',σ'',h4,h5,h6,h7⟩
   refine zEO (u:=fun _=>True) act.defers g' w' (fun g'' w'' hle h2 h3 => ?_) h2 h3
   obtain ⟨u,k1,k2⟩:=ares_ok (P:=E.P) h2 h3 h4
   have h1:=h1.trans hle
   exact ⟨u,k1,{ g'' with R:=g.R },σ'',v',⟨h1.F,h1.info,rfl⟩,(h2.forget h6).lessR h3.sub,RV.monoX (g:=g'') (g':={ g'' with R:=g.R }) ⟨fun _ _ _ h=>h,fun _ _ h=>h⟩ (h5 g'' u k2),h7⟩
  cases e with
  | normal=>obtain ⟨g',a,σ',loc,h1,h2,h3,h4⟩:=k; exact fin h1 h2 h3 h4
  | ret=>obtain ⟨g',a,σ',loc,h1,h2,h3,h4⟩:=k; exact fin h1 h2 h3 h4
  | exit id=>obtain ⟨g',a,σ',loc,h1,h2,h3,h4⟩:=k; exact h4.elim
  | goto l=>obtain ⟨g',a,σ',loc,h1,h2,h3,h4⟩:=k; exact h4.elim
  | panic c=>exact k.elim
  | outgrown=>exact k.elim

end
end Go.V
namespace Go.V
open Go.RowKit

theorem zEQ {P:Program} {σ:zA6} {ann:Ann} {c:Call} {ρ ρ':Operand->AV} (h:∀ x∈c.operands,ρ x=ρ' x):zBI P σ ann c ρ=zBI P σ ann c ρ':=by
 have hargs:c.args.toList.map ρ=c.args.toList.map ρ':=List.map_congr_left fun x hx=>h x (by simp only [Call.operands,Array.mem_append]; exact .inr (by simpa using hx))
 unfold zBI
 simp only [hargs]
 cases hc:c.callee with
 | value f=>have hf:ρ f=ρ' f:=h f (by simp [Call.operands,hc]); simp only [hf]
 | invoke r m=>have hf:ρ r=ρ' r:=h r (by simp [Call.operands,hc]); simp only [hf]
 | builtin b=>cases b <;> rfl

theorem zER {P:Program} {ann:Ann} {o:Op} {ρ ρ':Operand->AV} {σ:zA6} (h:∀ x∈o.operands,ρ x=ρ' x):aop P ann o ρ σ=aop P ann o ρ' σ:=by
 have pairs:∀ ps:Array (Nat×Operand),(∀ x∈ps.toList.map (·.2),ρ x=ρ' x) ->
   (ps.toList.map fun p=>(p.1,ρ p.2))=(ps.toList.map fun p=>(p.1,ρ' p.2)):=fun ps hp =>
  List.map_congr_left fun p hm=>by rw [hp p.2 (List.mem_map.2 ⟨p,hm,rfl⟩)]
 cases o <;> simp only [Op.operands] at h <;> simp only [aop]
 case build t ps=>rw [pairs ps fun x hx=>h x (by simpa using hx)]
 case buildSlice t n ps=>rw [pairs ps fun x hx=>h x (by simpa using hx)]
 case makeFunc fn first captured =>
  rw [List.map_congr_left (l:=first.toList) fun x hx=>h x (by simp only [Array.mem_append]; exact .inl (by simpa using hx)),List.map_congr_left (l:=captured.toList) fun x hx=>h x (by simp only [Array.mem_append]; exact .inr (by simpa using hx))]
 case call c=>rw [zEQ h]
 case makeMap t r=>cases r <;> simp_all
 case slice t x lo hi mx=>cases lo <;> cases hi <;> cases mx <;> simp_all
 all_goals (first | rfl | (simp_all; done))

theorem zES {P:Program} {ann:Ann} {o:Oper} {ρ ρ':Operand->AV} {σ:zA6} (h:∀ x∈o.op.operands,ρ x=ρ' x):zDL P ann o ρ σ=zDL P ann o ρ' σ:=by
 unfold zDL; rw [zER h]

def zET (o:Oper):Bool :=
 match o.op with
 | .alloc _ | .box _ _ | .store _ _ _=>false
 | .call c=>match c.callee with
  | .value _ | .invoke _ _=>false
  | _=>true
 | _=>true

theorem zEU {P:Program} {ann:Ann} {o:Oper} {ρ:Operand->AV} {σ:zA6} {f:Tgt} {args:List AV} (hp:zET o=true) (h:zDL P ann o ρ σ = .call f args):False:=by
 have hof:∀ (x:Option AV),Res.of σ x ≠ .call f args:=fun x=>by cases x <;> simp [Res.of]
 have key:aop P ann o.op ρ σ ≠ .call f args:=by
  clear h
  obtain ⟨dst,op,type,pos,after,guard⟩:=o
  intro h
  cases op <;> simp only [aop,zET,Bool.false_eq_true] at h hp
  case call c =>
   unfold zBI at h
   cases hc:c.callee with
   | value x=>rw [hc] at hp; cases hp
   | invoke r m=>rw [hc] at hp; cases hp
   | builtin b =>
    rw [hc] at h
    cases b <;> simp only at h <;> try (cases h; done)
    case len=>split at h <;> (try split at h) <;> cases h
    case append =>
     split at h
     ·unfold zBA at h
      split at h
      ·unfold zB9 at h
       repeat' (split at h <;> try (cases h; done))
      unfold zB8 at h
      repeat' (split at h <;> try (cases h; done))
     ·cases h
    case max=>split at h <;> (try split at h) <;> cases h
    case cap=>split at h <;> (try split at h) <;> cases h
    case min=>split at h <;> (try split at h) <;> cases h
  case makeMap t r=>cases r <;> simp only at h <;> cases h
  case range t x=>split at h <;> cases h
  case next x b=>repeat' (split at h <;> try (cases h; done))
  all_goals first | exact hof _ h | (unfold zAN at h; repeat' (split at h <;> try (cases h; done))) | (unfold zBF at h; repeat' (split at h <;> try (cases h; done))) | (unfold zBC at h; repeat' (split at h <;> try (cases h; done))) | (unfold zB6 at h; repeat' (split at h <;> try (cases h; done))) | (cases h; done) | (repeat' (split at h <;> try (cases h; done)))
 unfold zDL at h
 split at h
 ·split at h
  ·split at h
   ·split at h
    ·unfold zBB at h
     repeat' (split at h <;> try (cases h; done))
    ·cases h
   ·cases h
  ·cases h
 ·exact key h

section
variable {E:Env} {H:zDY} {n:Nat} {R0:Nat->Option Obj} {loc:Nat->Option Nat} {g:zA2} {w:World} {σ:zA6} {a a1:zDN} {act:Act}
theorem zEV (G:Nat->AV) (a:zDN) (x:Operand):zAA G a.low x=(zDO G a x).low:=by cases x <;> rfl

structure Upd (S:Nat->Prop) (o:Oper) (a1 a' a1':zDN):Prop where
 l:a1'.l=a'.l
 t:∀ t,(¬ S t\/o.dst=some t)->a1'.t t=a'.t t
 p:zET o=true->a1'.l=a1.l/\∀ t,o.dst≠some t->a1'.t t=a1.t t

structure zEW (S:Nat->Prop) (a a1:zDN):Prop where
 l:a1.l=a.l
 t:∀ t,¬ S t->a1.t t=a.t t

variable {S:Nat->Prop} {ann:Ann} {o:Oper} {K K1:zE3}
theorem zEX (h:zEW S a a1) (v:TV):Upd S o a1 (a.put o.dst v) (a1.put o.dst v):=by
 cases hd:o.dst with
 | none=>exact ⟨h.l,fun t ht=>h.t t (ht.resolve_right (by rw [hd]; simp)),fun _=>⟨rfl,fun t _=>rfl⟩⟩
 | some d =>
  refine ⟨h.l,fun t ht => ?_,fun _=>⟨rfl,fun t ht => ?_⟩⟩
  ·show (if t=d then v else a1.t t)=(if t=d then v else a.t t)
   split
   ·rfl
   ·rename_i e; exact h.t t (ht.resolve_right (by rw [hd]; intro e'; cases e'; exact e rfl))
  ·show (if t=d then v else a1.t t)=a1.t t
   rw [if_neg (by rintro rfl; exact ht hd)]

theorem zEY (h:zEW S a a1) {x:Operand} (hx:∀ t,x = .tmp t->¬ S t):zDO E.G a1 x=zDO E.G a x:=by
 cases x with
 | tmp t=>exact h.t t (hx t rfl)
 | _=>rfl

theorem genS_rel (hH:HOk E H) (h:zEW S a a1) (hop:∀ x∈o.op.operands,∀ t,x = .tmp t->¬ S t)
  (hK:∀ a' a1' σ',Upd S o a1 a' a1'->K a' σ'->K1 a1' σ') (k:zE4 E H ann o K a σ):zE4 E H ann o K1 a1 σ:=by
 unfold zE4 at *
 rw [zES (ρ:=zAA E.G a1.low) (ρ':=zAA E.G a.low) fun x hx=>by rw [zEV,zEV,zEY h (hop x hx)]]
 split
 ·rename_i v σ' hr; rw [hr] at k; exact hK _ _ _ (zEX h _) k
 ·rename_i f args hr; rw [hr] at k; exact hH.mono _ _ _ _ _ (fun v σ' k=>hK _ _ _ (zEX h _) k) k
 ·rename_i hr; rw [hr] at k; exact k
 ·rename_i v1 σ1 v2 σ2 hr; rw [hr] at k; exact ⟨hK _ _ _ (zEX h _) k.1,hK _ _ _ (zEX h _) k.2⟩

theorem zEZ {cs:List AV} {gen gen1:Prop} (h:zEW S a a1) (hp:zET o=false) (hg:gen->gen1)
  (hK:∀ a' a1' σ',Upd S o a1 a' a1'->K a' σ'->K1 a1' σ') (k:zE5 ann o cs K gen a σ):zE5 ann o cs K1 gen1 a1 σ:=by
 unfold zE5 at *
 split
 ·rename_i d hd
  simp only [hd] at k
  refine ⟨k.1,hK _ _ _ ⟨?_,fun t ht => ?_,fun e=>by rw [hp] at e; cases e⟩ k.2⟩
  ·show (fun j=>if j=d then cs else a1.l j)=(fun j=>if j=d then cs else a.l j)
   rw [h.l]
  ·show (if t=d then TV.l d 0 else (a1.t t).kill d)=(if t=d then TV.l d 0 else (a.t t).kill d)
   split
   ·rfl
   ·rename_i e; rw [h.t t (ht.resolve_right (by rw [hd]; intro e'; cases e'; exact e rfl))]
 ·rename_i hne
  refine hg ?_
  split at k
  ·rename_i d hd; exact absurd hd (hne d rfl)
  ·exact k

theorem goS_rel (hH:HOk E H) (h:zEW S a a1) (hop:∀ x∈o.op.operands,∀ t,x = .tmp t->¬ S t)
  (hK:∀ a' a1' σ',Upd S o a1 a' a1'->K a' σ'->K1 a1' σ') (k:goS E H ann o K a σ):goS E H ann o K1 a1 σ:=by
 have hg:zE4 E H ann o K a σ->zE4 E H ann o K1 a1 σ:=genS_rel hH h hop hK
 have hv:∀ x∈o.op.operands,zDO E.G a1 x=zDO E.G a x:=fun x hx=>zEY h (hop x hx)
 have hput:=fun v=>zEX (o:=o) h v
 unfold goS at *
 cases ho:o.op with
 | alloc e =>
  simp only [ho] at k ⊢
  split
  ·rename_i z hz; simp only [hz] at k; exact zEZ h (by simp [zET,ho]) hg hK k
  ·rename_i hz; simp only [hz] at k
 | box e x =>
  simp only [ho] at k hv ⊢
  rw [hv x (by simp [Op.operands])]
  split
  ·rename_i v hz; simp only [hz] at k; exact zEZ h (by simp [zET,ho]) hg hK k
  ·rename_i hz; simp only [hz] at k
 | load t x =>
  simp only [ho] at k hv ⊢
  rw [hv x (by simp [Op.operands]),h.l]
  split
  ·rename_i hz; simp only [hz] at k
   split
   ·rename_i v hw; simp only [hw] at k; exact hK _ _ _ (hput _) k
   ·rename_i hw; simp only [hw] at k
  ·rename_i hz; simp only [hz] at k; exact hg k
 | store t x v =>
  simp only [ho] at k hv ⊢
  rw [hv x (by simp [Op.operands]),hv v (by simp [Op.operands]),h.l]
  split
  ·rename_i hz; simp only [hz] at k
   obtain ⟨k1,k2,k3,k4,k5,k6⟩:=k
   refine ⟨k1,k2,k3,k4,k5,hK _ _ _ ⟨?_,fun t ht => ?_,fun e=>by simp [zET,ho] at e⟩ k6⟩
   ·simp only [zDN.setL,h.l]
   ·exact h.t t (ht.resolve_right (by rw [k5]; simp))
  ·rename_i hz; simp only [hz] at k; exact hg k
 | fieldAddr s x f =>
  simp only [ho] at k hv ⊢
  rw [hv x (by simp [Op.operands])]
  split
  ·rename_i hz; simp only [hz] at k
   split
   ·rename_i hw; simp only [hw] at k
    split
    ·rename_i hm; simp only [hm,if_true] at k
    ·rename_i hm; simp only [hm,if_false] at k; exact hK _ _ _ (hput _) k
   ·rename_i hw; simp only [hw] at k
  ·rename_i hz; simp only [hz] at k; exact hg k
 | indexAddr t x i =>
  simp only [ho] at k hv ⊢
  rw [hv x (by simp [Op.operands]),hv i (by simp [Op.operands])]
  split
  ·rename_i hz; simp only [hz] at k
   split
   ·rename_i h1 h2; simp only [h1,h2] at k
    split
    ·rename_i h3; simp only [h3] at k; exact ⟨k.1,k.2.1,hK _ _ _ (hput _) k.2.2⟩
    ·rename_i h3; simp only [h3] at k
   ·rename_i h1
    split at k
    ·rename_i h2 h3; exact absurd h3 (h1 _ _ _ _ h2)
    ·exact k
  ·rename_i hz; simp only [hz] at k; exact hg k
 | nilCheck x =>
  simp only [ho] at k hv ⊢
  rw [hv x (by simp [Op.operands])]
  split
  ·rename_i hz; simp only [hz] at k; exact hK _ _ _ (hput _) k
  ·rename_i hz; simp only [hz] at k; exact hg k
 | move x =>
  simp only [ho] at k hv ⊢
  rw [hv x (by simp [Op.operands])]
  split
  ·rename_i hz; simp only [hz] at k; exact hK _ _ _ (hput _) k
  ·rename_i hz; simp only [hz] at k; exact hg k
 | assign x =>
  simp only [ho] at k hv ⊢
  rw [hv x (by simp [Op.operands])]
  split
  ·rename_i hz; simp only [hz] at k; exact hK _ _ _ (hput _) k
  ·rename_i hz; simp only [hz] at k; exact hg k
 | _=>simp only [ho] at k ⊢; exact hg k
end
end Go.V
namespace Go.V
open Go.RowKit

section
variable {E:Env} {H:zDY} {n:Nat} {R0:Nat->Option Obj} {loc:Nat->Option Nat} {g:zA2} {w:World} {σ:zA6} {a a1:zDN} {act:Act}
variable {S:Nat->Prop} {ann:Ann} {o:Oper} {K K1:zE3} {ops:Array Oper}
theorem zF0 {o:Oper} {ops:Array Oper} {t:Nat} (h:.tmp t∈o.op.operands):t∈o.looksAt ops:=by
 unfold Oper.looksAt
 exact List.mem_append_left _ (List.mem_filterMap.2 ⟨.tmp t,by simpa using h,rfl⟩)

theorem zF1 {o:Oper} {ops:Array Oper} {j d:Nat} {b:Bool} (hg:o.guard=some (j,b)) (hd:(ops[j]?).bind (·.dst)=some d):d∈o.looksAt ops:=by
 unfold Oper.looksAt
 refine List.mem_append_right _ ?_
 rw [hg]
 simp [hd]

theorem zF2 {d:Nat} {b:Bool} (h:(a.t d).low = .bool b):a.setB d b=a:=by
 have:a.t d = .v (.bool b):=by
  generalize a.t d=x at h
  cases x with
  | v y=>exact congrArg TV.v h
  | l k off=>cases h
 unfold zDN.setB
 have e:(fun j=>if j=d then TV.v (.bool b) else a.t j)=a.t:=by
  funext j
  split
  ·rename_i e; rw [e,this]
  ·rfl
 rw [e]

theorem zF3 (hH:HOk E H) (h:zEW S a a1) (hop:∀ t∈o.looksAt ops,¬ S t)
  (hK:∀ a' a1' σ',Upd S o a1 a' a1'->K a' σ'->K1 a1' σ') (k:zE6 E H ann ops o K a σ):zE6 E H ann ops o K1 a1 σ:=by
 have hgo:goS E H ann o K a σ->goS E H ann o K1 a1 σ:=goS_rel hH h (fun x hx t e=>by subst e; exact hop t (zF0 hx)) hK
 unfold zE6 at *
 split
 ·rename_i hg; simp only [hg] at k; exact hgo k
 ·rename_i j want hg
  simp only [hg] at k
  split
  ·rename_i hd; simp only [hd] at k; exact hK _ _ _ (zEX h _) k
  ·rename_i d hd
   simp only [hd] at k
   have ed:a1.t d=a.t d:=h.t d (hop d (zF1 hg hd))
   rw [ed]
   split
   ·rename_i b hb
    simp only [hb] at k
    cases b
    ·have e1:a1.setB d false=a1:=zF2 (by rw [ed]; exact hb)
     rw [zF2 hb] at k; rw [e1]
     simp only [bcase] at k ⊢
     split
     ·rename_i hw; simp only [hw,if_true] at k; exact hK _ _ _ (zEX h _) k
     ·rename_i hw; simp only [hw] at k; exact hgo k
    ·have e1:a1.setB d true=a1:=zF2 (by rw [ed]; exact hb)
     rw [zF2 hb] at k; rw [e1]
     simp only [bcase] at k ⊢
     split
     ·rename_i hw; simp only [hw,if_true] at k; exact hgo k
     ·rename_i hw; simp only [hw] at k; exact hK _ _ _ (zEX h _) k
   ·rename_i hb; simp only [hb] at k
   ·rename_i h1 h2
    split at k
    ·rename_i b hb; exact absurd hb (h1 b)
    ·exact k.elim
    ·exact hK _ _ _ (zEX h _) k

theorem genS_get (hp:zET o=true) (k:zE4 E H ann o K a σ):∃ v σ',K (a.put o.dst v) σ':=by
 unfold zE4 at k
 split at k
 ·exact ⟨_,_,k⟩
 ·rename_i hr; exact (zEU hp hr).elim
 ·exact k.elim
 ·exact ⟨_,_,k.1⟩

theorem zF4 (hp:zET o=true) (k:goS E H ann o K a σ):∃ v σ',K (a.put o.dst v) σ':=by
 have hg:zE4 E H ann o K a σ->∃ v σ',K (a.put o.dst v) σ':=genS_get hp
 unfold goS at k
 cases ho:o.op with
 | alloc e=>simp [zET,ho] at hp
 | box e x=>simp [zET,ho] at hp
 | store t x v=>simp [zET,ho] at hp
 | load t x =>
  simp only [ho] at k
  split at k
  ·split at k
   ·exact ⟨_,_,k⟩
   ·exact k.elim
  ·exact hg k
 | fieldAddr s x f =>
  simp only [ho] at k
  split at k
  ·split at k
   ·split at k
    ·exact k.elim
    ·exact ⟨_,_,k⟩
   ·exact k.elim
  ·exact hg k
 | indexAddr t x i =>
  simp only [ho] at k
  split at k
  ·split at k
   ·split at k
    ·exact ⟨_,_,k.2.2⟩
    ·exact k.elim
   ·exact k.elim
  ·exact hg k
 | nilCheck x=>simp only [ho] at k; split at k; exact ⟨_,_,k⟩; exact hg k
 | move x=>simp only [ho] at k; split at k; exact ⟨_,_,k⟩; exact hg k
 | assign x=>simp only [ho] at k; split at k; exact ⟨_,_,k⟩; exact hg k
 | _=>simp only [ho] at k; exact hg k

theorem zF5 (hp:zET o=true) (k:zE6 E H ann ops o K a σ):∃ v σ',K (a.put o.dst v) σ':=by
 unfold zE6 at k
 split at k
 ·exact zF4 hp k
 ·split at k
  ·exact ⟨_,_,k⟩
  ·rename_i d hd
   split at k
   ·rename_i b hb
    cases b
    ·rw [zF2 hb] at k
     simp only [bcase] at k
     split at k
     ·exact ⟨_,_,k⟩
     ·exact zF4 hp k
    ·rw [zF2 hb] at k
     simp only [bcase] at k
     split at k
     ·exact zF4 hp k
     ·exact ⟨_,_,k⟩
   ·exact k.elim
   ·exact ⟨_,_,k⟩

def zF6 (anc:List Nat) (o:Oper):Nat:=o.after.toList.foldl (fun s e=>if Region.binds .any e then s ||| 2 ^ e.on ||| anc.getD e.on 0 else s) 0

def ancGo:List Oper->List Nat->List Nat
 | [],acc=>acc
 | o :: l,acc=>ancGo l (acc++[zF6 acc o])

def zF7 (anc:List Nat) (k i:Nat):Bool:=(anc.getD i 0).testBit k

theorem zF8 (anc:List Nat) (o:Oper) (k:Nat):(zF6 anc o).testBit k=true->∃ e∈o.after,Region.binds .any e=true/\(e.on=k\/zF7 anc k e.on=true):=by
 unfold zF6
 have:∀ (l:List Edge) (s:Nat),(l.foldl (fun s e=>if Region.binds .any e then s ||| 2 ^ e.on ||| anc.getD e.on 0 else s) s).testBit k=true ->
   s.testBit k=true\/∃ e∈l,Region.binds .any e=true/\(e.on=k\/zF7 anc k e.on=true):=by
  intro l
  induction l with
  | nil=>intro s h; exact .inl h
  | cons e l ih =>
   intro s h
   rw [List.foldl_cons] at h
   rcases ih _ h with h1 | ⟨e',h1,h2,h3⟩
   ·by_cases hb:Region.binds .any e=true
    ·rw [if_pos hb,Nat.testBit_or,Nat.testBit_or,Nat.testBit_two_pow] at h1
     simp only [Bool.or_eq_true,decide_eq_true_eq] at h1
     rcases h1 with (h1 | h1) | h1
     ·exact .inl h1
     ·exact .inr ⟨e,by simp,hb,.inl h1⟩
     ·exact .inr ⟨e,by simp,hb,.inr h1⟩
    ·rw [if_neg hb] at h1; exact .inl h1
   ·exact .inr ⟨e',by simp [h1],h2,h3⟩
 intro h
 rcases this o.after.toList 0 h with h1 | ⟨e,h1,h2,h3⟩
 ·simp at h1
 ·exact ⟨e,by simpa using h1,h2,h3⟩

def opOk (anc eff:List Nat) (ops:Array Oper) (oi:Oper×Nat):Bool :=
 (anc.getD oi.2 0==zF6 anc oi.1)&&(oi.1.after.toList.all fun e => !Region.binds .any e || decide (e.on<oi.2)) &&
 (eff.contains oi.2 || zET oi.1) &&
 (ops.toList.zipIdx.all fun ok=>match ok.1.dst with
  | some t=>(!(oi.1.looksAt ops).contains t || zF7 anc ok.2 oi.2 || eff.contains ok.2)&&(ok.2==oi.2 || oi.1.dst != some t)
  | none=>true)

def zF9 (anc eff:List Nat) (ops:Array Oper):Bool :=
 ops.toList.zipIdx.all (opOk anc eff ops)&&eff.all (decide <| ·<ops.size)

def zFA (anc eff:List Nat) (done:List Nat) (i:Nat):Bool:=!eff.contains i&&eff.all fun e => !zF7 anc e i || done.contains e

def zFB (anc eff done:List Nat) (oi:Oper×Nat):Bool :=
 match done with
 | []=>zFA anc eff [] oi.2
 | e :: d=>zFA anc eff (e :: d) oi.2 && !zFA anc eff d oi.2

def zFC (anc eff done:List Nat) (oi:Oper×Nat):Bool:=zFA anc eff done oi.2 && !(done.any fun e=>zF7 anc oi.2 e)

def zFD (anc eff done:List Nat) (oi:Oper×Nat):Bool:=eff.contains oi.2 && !done.contains oi.2&&eff.all fun e => !zF7 anc e oi.2 || done.contains e

def zFE (E:Env) (H:zDY) (an:zDM) (id:Nat) (ops:Array Oper):List (Oper×Nat)->zE3->zDN->zA6->Prop
 | [],K,a,σ=>K a σ
 | (o,i) :: r,K,a,σ=>zE6 E H (an.ann id i) ops o (fun a' σ'=>σ'=σ/\zFE E H an id ops r K a' σ) a σ

def zFF (dst:Option Tmp) (a' a:zDN):Prop :=
 match dst with
 | some d=>a'.t d=a.t d
 | none=>True

def zFG (E:Env) (H:zDY) (an:zDM) (id:Nat) (ops:Array Oper):List (Oper×Nat)->zDN->zA6->Prop
 | [],a,σ=>True
 | (o,i) :: r,a,σ=>zE6 E H (an.ann id i) ops o (fun a' σ'=>σ'=σ/\zFF o.dst a' a) a σ/\zFG E H an id ops r a σ

def allE {α:Type} (p:α->Prop):List α->Prop
 | []=>True
 | [x]=>p x
 | x :: r=>p x/\allE p r

theorem zFH {α:Type} {p:α->Prop}:∀ {l:List α},allE p l->∀ x∈l,p x
 | [],_,x,hx=>by cases hx
 | [y],h,x,hx=>by simp at hx; subst hx; exact h
 | y :: z :: r,h,x,hx=>by
  rcases List.mem_cons.1 hx with rfl | hx
  ·exact h.1
  ·exact zFH h.2 x hx

def zFI (E:Env) (H:zDY) (an:zDM) (id:Nat) (ops:Array Oper) (anc eff:List Nat):Nat->List Nat->zE3->zDN->zA6->Prop
 | 0,_,_,_,_=>False
 | f+1,done,K,a,σ =>
  zFE E H an id ops (ops.toList.zipIdx.filter (zFB anc eff done)) (fun a' σ' =>
   zFG E H an id ops (ops.toList.zipIdx.filter (zFC anc eff done)) a' σ' /\
   (match eff.all (done.contains ·) with
    | true=>K a' σ'
    | false=>allE (fun (oi:Oper×Nat)=>zE6 E H (an.ann id oi.2) ops oi.1 (fun a'' σ''=>zFI E H an id ops anc eff f (oi.2 :: done) K a'' σ'') a' σ') (ops.toList.zipIdx.filter (zFD anc eff done)))) a σ

theorem zFJ {an:zDM} {id:Nat}:∀ (l:List (Oper×Nat)) (K:zE3) (a:zDN),(∀ x∈l,zET x.1=true)->zFE E H an id ops l K a σ ->
  ∃ a',K a' σ/\a'.l=a.l/\∀ t,(∀ x∈l,x.1.dst≠some t)->a'.t t=a.t t
 | [],K,a,_,h=>⟨a,h,rfl,fun _ _=>rfl⟩
 | (o,i) :: r,K,a,hp,h=>by
  obtain ⟨v,σ',_,h1⟩:=zF5 (hp (o,i) (by simp)) h
  obtain ⟨a',h2,h3,h4⟩:=zFJ r K _ (fun x hx=>hp x (by simp [hx])) h1
  refine ⟨a',h2,?_,fun t ht => ?_⟩
  ·rw [h3]; cases o.dst <;> rfl
  ·rw [h4 t fun x hx=>ht x (by simp [hx])]
   have:=ht (o,i) (by simp)
   cases hd:o.dst with
   | none=>rfl
   | some d =>
    show (if t=d then v else a.t t)=a.t t
    rw [if_neg]; rintro rfl; exact this hd

theorem zFK {an:zDM} {id:Nat}:∀ {l:List (Oper×Nat)},zFG E H an id ops l a σ->∀ x∈l,zE6 E H (an.ann id x.2) ops x.1 (fun a' σ'=>σ'=σ/\zFF x.1.dst a' a) a σ
 | [],_,x,hx=>by cases hx
 | y :: r,h,x,hx=>by
  rcases List.mem_cons.1 hx with rfl | hx
  ·exact h.1
  ·exact zFK h.2 x hx
end
end Go.V
namespace Go.V
open Go.RowKit

section
variable {E:Env} {H:zDY} {rd:Option Nat} {F:Fence} {n:Nat} {R0:Nat->Option Obj} {ops:Array Oper} {anc eff:List Nat} {an:zDM} {id:Nat}
structure OpSpec (anc eff:List Nat) (ops:Array Oper) (i:Nat) (o:Oper):Prop where
 mask:anc.getD i 0=zF6 anc o
 back:∀ e∈o.after,Region.binds .any e=true->e.on<i
 pure:i∉eff->zET o=true
 look:∀ k ok,ops[k]? = some ok->∀ t,ok.dst=some t->t∈o.looksAt ops->k∉eff->zF7 anc k i=true
 dst:∀ k ok,ops[k]? = some ok->∀ t,ok.dst=some t->k=i\/o.dst≠some t

theorem zFL {i:Nat} {o:Oper}:(o,i)∈ops.toList.zipIdx↔ops[i]? = some o:=by
 rw [List.mem_zipIdx_iff_getElem?]; simp

theorem zFM (h:zF9 anc eff ops=true) {i:Nat} {o:Oper} (hi:ops[i]? = some o):OpSpec anc eff ops i o:=by
 unfold zF9 at h
 rw [Bool.and_eq_true,List.all_eq_true] at h
 have h1:=h.1 (o,i) (zFL.2 hi)
 unfold opOk at h1
 simp only [Bool.and_eq_true,beq_iff_eq,List.all_eq_true,Bool.or_eq_true,Bool.not_eq_true',decide_eq_true_eq] at h1
 obtain ⟨⟨⟨h1,h2⟩,h3⟩,h4⟩:=h1
 refine ⟨h1,fun e he hb => ?_,fun hn => ?_,fun k ok hk t ht hl hke => ?_,fun k ok hk t ht => ?_⟩
 ·rcases h2 e (by simpa using he) with h | h
  ·rw [hb] at h; cases h
  ·exact h
 ·rcases h3 with h | h
  ·exact absurd (by simpa using h) hn
  ·exact h
 ·have:=h4 (ok,k) (zFL.2 hk)
  simp only [ht,Bool.and_eq_true,Bool.or_eq_true,Bool.not_eq_true'] at this
  rcases this.1 with (h | h) | h
  ·have:(o.looksAt ops).contains t=true:=by simpa using hl
   rw [this] at h; cases h
  ·exact h
  ·exact absurd (by simpa using h) hke
 ·have:=h4 (ok,k) (zFL.2 hk)
  simp only [ht,Bool.and_eq_true,Bool.or_eq_true,beq_iff_eq,bne_iff_ne] at this
  exact this.2

theorem zFN (h:zF9 anc eff ops=true) {e:Nat} (he:e∈eff):e<ops.size:=by
 unfold zF9 at h
 rw [Bool.and_eq_true,List.all_eq_true,List.all_eq_true] at h
 simpa using h.2 e he

structure DInv (eff:List Nat) (ops:Array Oper) (listed:Array Bool) (done:List Nat):Prop where
 size:listed.size=ops.size
 closed:∀ i o,ops[i]? = some o->listed.getD i false=true->∀ e∈o.after,Region.binds .any e=true->listed.getD e.on false=true
 doneD:∀ e∈done,listed.getD e false=true/\e∈eff
 doneE:∀ e∈eff,listed.getD e false=true->e∈done

def pend (eff:List Nat) (ops:Array Oper) (listed:Array Bool) (t:Nat):Prop:=∃ i o,ops[i]? = some o/\listed.getD i false=false/\o.dst=some t/\i∉eff

theorem zFO (hd:zF9 anc eff ops=true) {listed:Array Bool} (hcl:∀ i o,ops[i]? = some o->listed.getD i false=true->∀ e∈o.after,Region.binds .any e=true->listed.getD e.on false=true) :
  ∀ (i:Nat) (o:Oper),ops[i]? = some o->(∀ e∈o.after,Region.binds .any e=true->listed.getD e.on false=true)->∀ k,zF7 anc k i=true->listed.getD k false=true:=by
 intro i
 induction i using Nat.strongRecOn with
 | _ i ih =>
  intro o hi hal k hk
  have hs:=zFM hd hi
  unfold zF7 at hk
  rw [hs.mask] at hk
  obtain ⟨e,he,hb,h⟩:=zF8 anc o k hk
  rcases h with h | h
  ·rw [<-h]; exact hal e he hb
  ·have hlt:=hs.back e he hb
   have hsz:i<ops.size:=(Array.getElem?_eq_some_iff.1 hi).1
   have hoe:ops[e.on]? = some ops[e.on]:=Array.getElem?_eq_getElem (by omega)
   exact ih e.on hlt _ hoe (hcl e.on _ hoe (hal e he hb)) k h

theorem zFP {listed:Array Bool} {i:Nat} (h:i<listed.size):listed.getD i true=listed.getD i false:=by
 simp [Array.getD,h]

def canS (E:Env) (H:zDY) (an:zDM) (id:Nat) (ops:Array Oper) (anc eff:List Nat) (f:Nat) (done:List Nat) (K:zE3) (a:zDN) (σ:zA6):Prop :=
 zFG E H an id ops (ops.toList.zipIdx.filter (zFC anc eff done)) a σ /\
 (match eff.all (done.contains ·) with
  | true=>K a σ
  | false=>allE (fun (oi:Oper×Nat)=>zE6 E H (an.ann id oi.2) ops oi.1 (fun a'' σ''=>zFI E H an id ops anc eff f (oi.2 :: done) K a'' σ'') a σ) (ops.toList.zipIdx.filter (zFD anc eff done)))

theorem zFQ {done:List Nat} {x:Oper×Nat} (h:zFB anc eff done x=true):zFA anc eff done x.2=true:=by
 unfold zFB at h
 split at h
 ·exact h
 ·simp only [Bool.and_eq_true] at h; exact h.1

theorem zFR (hd:zF9 anc eff ops=true) {done:List Nat} {x:Oper×Nat} (hx:x∈ops.toList.zipIdx) (h:zFA anc eff done x.2=true):zET x.1=true:=by
 refine (zFM hd (zFL.1 hx)).pure ?_
 unfold zFA at h
 simp only [Bool.and_eq_true,Bool.not_eq_true'] at h
 intro he
 have:eff.contains x.2=true:=by simpa using he
 rw [this] at h; cases h.1

theorem zFS (hd:zF9 anc eff ops=true) {f:Nat} {done:List Nat} {K:zE3} {a:zDN} {σ:zA6} (h:zFI E H an id ops anc eff f done K a σ) :
  ∃ f' a',canS E H an id ops anc eff f' done K a' σ/\a'.l=a.l/\∀ t,(∀ x∈ops.toList.zipIdx,zFB anc eff done x=true->x.1.dst≠some t)->a'.t t=a.t t:=by
 cases f with
 | zero=>exact h.elim
 | succ f =>
  obtain ⟨a',h1,h2,h3⟩:=zFJ _ _ a (fun x hx=>zFR hd (List.mem_filter.1 hx).1 (zFQ (List.mem_filter.1 hx).2)) h
  exact ⟨f,a',h1,h2,fun t ht=>h3 t fun x hx=>ht x (List.mem_filter.1 hx).1 (List.mem_filter.1 hx).2⟩

theorem zFT (hH:HOk E H) {g0:zA2} (hF:zDT g0 rd F) (hr:zE7 n ops=true) (hd:zF9 anc eff ops=true) {Q:zDW} :
  ∀ (m:Nat) (listed:Array Bool) (done:List Nat) (f:Nat) (a a1:zDN) (σ:zA6) (g:zA2) (w:World) (act:Act) (loc:Nat->Option Nat),
   listed.toList.countP (!·)=m->DInv eff ops listed done->canS E H an id ops anc eff f done (Q .normal) a σ->zEW (pend eff ops listed) a a1 ->
   g0.LeX g->zBM g E.G->Sim E.B E.w0 g σ w->Fr n R0 E.B g loc a1 act->wpAnyIn F 0 E.P .any ops (zDX E n R0 g0 Q) m listed act w:=by
 intro m
 induction m with
 | zero =>
  intro listed done f a a1 σ g w act loc hc hI hC hA hle hG hS hT
  have hall:∀ i,i<ops.size->listed.getD i false=true:=by
   intro i hi
   rw [List.countP_eq_zero] at hc
   have hi':i<listed.size:=by rw [hI.size]; exact hi
   have:=hc listed[i] (by simp)
   simp [hi'] at this ⊢; exact this
  refine ⟨?_,?_⟩
  ·rw [List.eq_nil_iff_forall_not_mem]
   intro j hj
   obtain ⟨h1,o,h2,_⟩:=mem_ready.1 hj
   have hlt:j<ops.size:=(Array.getElem?_eq_some_iff.1 h2).1
   rw [zFP (by rw [hI.size]; exact hlt),hall j hlt] at h1
   cases h1
  ·have hfin:eff.all (done.contains ·)=true:=by
    rw [List.all_eq_true]
    intro e he
    have:=hI.doneE e he (hall e (zFN hd he))
    simpa using this
   have hk:=hC.2
   rw [hfin] at hk
   refine ⟨g,a,σ,loc,hle,hS,?_,hk⟩
   have:a1=a:=by
    have h1:a1.t=a.t:=funext fun t=>hA.t t (by
     rintro ⟨i,o,h1,h2,_,_⟩
     rw [hall i (Array.getElem?_eq_some_iff.1 h1).1] at h2; cases h2)
    obtain ⟨t1,l1⟩:=a1
    obtain ⟨t0,l0⟩:=a
    simp only at h1
    have h2:l1=l0:=hA.l
    rw [h1,h2]
   rw [<-this]; exact hT
 | succ m ih =>
  intro listed done f a a1 σ g w act loc hc hI hC hA hle hG hS hT
  constructor
  ·intro hnil
   exfalso
   have hex:∃ i,i<ops.size/\listed.getD i false=false:=by
    have:0<listed.toList.countP (!·):=by omega
    rw [List.countP_pos_iff] at this
    obtain ⟨x,hx,hx'⟩:=this
    obtain ⟨i,hi,rfl⟩:=List.getElem_of_mem hx
    have hi':i<listed.size:=by simpa using hi
    refine ⟨i,by rw [<-hI.size]; exact hi',?_⟩
    simp [hi'] at hx' ⊢; exact hx'
   obtain ⟨i,⟨hi,hf⟩,hmin⟩:=zEJ (fun i=>i<ops.size/\listed.getD i false=false) hex
   have hoi:ops[i]? = some ops[i]:=Array.getElem?_eq_getElem hi
   have:i∈Region.ready .any ops listed:=by
    refine mem_ready.2 ⟨by rw [zFP (by rw [hI.size]; exact hi)]; exact hf,_,hoi,fun e he hb => ?_⟩
    have hlt:=(zFM hd hoi).back e he hb
    cases hl:listed.getD e.on false with
    | true=>rfl
    | false=>have:=hmin e.on ⟨by omega,hl⟩; omega
   rw [hnil] at this; cases this
  ·intro j hj
   obtain ⟨hu,oj,hoj,hall⟩:=mem_ready.1 hj
   have hlt:j<ops.size:=(Array.getElem?_eq_some_iff.1 hoj).1
   have hlt':j<listed.size:=by rw [hI.size]; exact hlt
   rw [zFP hlt'] at hu
   have hs:=zFM hd hoj
   have hanc:∀ k,zF7 anc k j=true->listed.getD k false=true:=zFO hd hI.closed j oj hoj hall
   have hdo:zDR n oj=true:=Array.all_eq_true_iff_forall_mem.1 hr oj (Array.mem_of_getElem? hoj)
   have hc':(listed.setIfInBounds j true).toList.countP (!·)=m:=by
    have h1:listed.toList[j]'(by simpa using hlt')=false:=by
     have:listed.getD j false=listed[j]:=by simp [hlt']
     rw [this] at hu; simpa using hu
    rw [Array.toList_setIfInBounds,List.countP_set (by simpa using hlt')]
    rw [h1,hc]; simp
   have hset:∀ i,(listed.setIfInBounds j true).getD i false=true↔(i=j\/listed.getD i false=true):=by
    intro i
    by_cases e:j=i
    ·subst e; simp [hlt']
    ·rw [getD_set_ne false e]; constructor
     ·exact .inr
     ·rintro (h | h); exact absurd h.symm e; exact h
   have hpend:∀ t,oj.dst≠some t->pend eff ops listed t->pend eff ops (listed.setIfInBounds j true) t:=by
    rintro t ht ⟨i,o,h1,h2,h3,h4⟩
    refine ⟨i,o,h1,?_,h3,h4⟩
    have:i≠j:=by rintro rfl; rw [hoj] at h1; cases h1; exact ht h3
    rw [getD_set_ne false (Ne.symm this)]; exact h2
   have hlook:∀ t∈oj.looksAt ops,¬ pend eff ops listed t:=by
    rintro t ht ⟨i,o,h1,h2,h3,h4⟩
    have:=hanc i (hs.look i o h1 t h3 ht h4)
    rw [this] at h2; cases h2
   have hclosed':∀ i o,ops[i]? = some o->(listed.setIfInBounds j true).getD i false=true->∀ e∈o.after,Region.binds .any e=true->(listed.setIfInBounds j true).getD e.on false=true:=by
    intro i o hi hl e he hb
    rcases (hset i).1 hl with rfl | hl
    ·rw [hoj] at hi; cases hi; exact (hset _).2 (.inr (hall e he hb))
    ·exact (hset _).2 (.inr (hI.closed i o hi hl e he hb))
   unfold wpOpIn
   rw [hoj]
   dsimp only
   by_cases hje:j∈eff
   ·-- it changes things
    have hnd:j∉done:=fun h=>by have:=(hI.doneD j h).1; rw [this] at hu; cases hu
    have hfin:eff.all (done.contains ·)=false:=by
     rw [List.all_eq_false]
     exact ⟨j,hje,by simpa using hnd⟩
    have hk:=hC.2
    rw [hfin] at hk
    have hav:zFD anc eff done (oj,j)=true:=by
     unfold zFD
     simp only [Bool.and_eq_true,List.all_eq_true,Bool.or_eq_true,Bool.not_eq_true']
     refine ⟨⟨by simpa using hje,by simpa using hnd⟩,fun e he => ?_⟩
     cases hb:zF7 anc e j with
     | false=>exact .inl rfl
     | true=>exact .inr (by simpa using hI.doneE e he (hanc e hb))
    have hst:=zFH hk (oj,j) (List.mem_filter.2 ⟨zFL.2 hoj,hav⟩)
    have hst1:=zF3 (a1:=a1) (K1:=fun a1' σ'=>∃ a',zFI E H an id ops anc eff f (j :: done) (Q .normal) a' σ'/\Upd (pend eff ops listed) oj a1 a' a1') hH hA hlook (fun a' a1' σ' hu k=>⟨a',k,hu⟩) hst
    refine zEB hH (hF.mono hle) hG hS hT hr hdo hst1 fun g' a1' σ' act' w' loc' k1 k2 k3 k4 => ?_
    obtain ⟨a',k5,k6⟩:=k4
    obtain ⟨f',a'',k7,k8,k9⟩:=zFS hd k5
    refine ih (listed.setIfInBounds j true) (j :: done) f' a'' a1' σ' g' w' act' loc' hc' ⟨by simpa using hI.size,hclosed',fun e he => ?_,fun e he hl => ?_⟩ k7 ⟨by rw [k6.l,k8],fun t ht => ?_⟩ (hle.trans k1) (hG.monoX k1) k2 k3
    ·rcases List.mem_cons.1 he with rfl | he
     ·exact ⟨(hset _).2 (.inl rfl),hje⟩
     ·exact ⟨(hset _).2 (.inr (hI.doneD e he).1),(hI.doneD e he).2⟩
    ·rcases (hset e).1 hl with rfl | hl
     ·simp
     ·exact List.mem_cons_of_mem _ (hI.doneE e he hl)
    ·rw [k6.t t (by
      by_cases hd':oj.dst=some t
      ·exact .inr hd'
      ·exact .inl fun hp=>ht (hpend t hd' hp)),k9 t fun x hx hn hdx => ?_]
     have he:=zFQ hn
     refine ht ⟨x.2,x.1,zFL.1 hx,?_,hdx,fun hxe=>by
      unfold zFA at he
      have:eff.contains x.2=true:=by simpa using hxe
      rw [this] at he; simp at he⟩
     have hne:x.2≠j:=by
      intro e; unfold zFA at he; rw [e] at he
      have:eff.contains j=true:=by simpa using hje
      rw [this] at he; simp at he
     rw [getD_set_ne false (Ne.symm hne)]
     cases hl:listed.getD x.2 false with
     | false=>rfl
     | true =>
      exfalso
      simp only [zFB,Bool.and_eq_true,Bool.not_eq_true'] at hn
      obtain ⟨h1,h2⟩:=hn
      have:zFA anc eff done x.2=true:=by
       unfold zFA at h1 ⊢
       simp only [Bool.and_eq_true,List.all_eq_true,Bool.or_eq_true,Bool.not_eq_true'] at h1 ⊢
       refine ⟨h1.1,fun e he => ?_⟩
       cases hb:zF7 anc e x.2 with
       | false=>exact .inl rfl
       | true =>
        have hle':=zFO hd hI.closed x.2 x.1 (zFL.1 hx) (hI.closed x.2 x.1 (zFL.1 hx) hl) e hb
        exact .inr (by simpa using hI.doneE e he hle')
      rw [this] at h2; cases h2
   ·-- it changes nothing
    have hlive:zFC anc eff done (oj,j)=true:=by
     unfold zFC zFA
     simp only [Bool.and_eq_true,List.all_eq_true,Bool.or_eq_true,Bool.not_eq_true',List.any_eq_false,Bool.not_eq_true]
     refine ⟨⟨by simpa using hje,fun e he => ?_⟩,fun e he => ?_⟩
     ·cases hb:zF7 anc e j with
      | false=>exact .inl rfl
      | true=>exact .inr (by simpa using hI.doneE e he (hanc e hb))
     ·cases hb:zF7 anc j e with
      | false=>rfl
      | true =>
       have h1:=(hI.doneD e he).1
       have h2:=zFN hd (hI.doneD e he).2
       have hoe:ops[e]? = some ops[e]:=Array.getElem?_eq_getElem h2
       have:=zFO hd hI.closed e _ hoe (hI.closed e _ hoe h1) j hb
       rw [this] at hu; cases hu
    have hst:=zFK hC.1 (oj,j) (List.mem_filter.2 ⟨zFL.2 hoj,hlive⟩)
    have hst1:=zF3 (a1:=a1) (K1:=fun a1' σ'=>σ'=σ/\zEW (pend eff ops (listed.setIfInBounds j true)) a a1') hH hA hlook (fun a' a1' σ' hu k=>⟨k.1,by rw [(hu.p (hs.pure hje)).1,hA.l],fun t ht=>by
     by_cases hd':oj.dst=some t
     ·rw [hu.t t (.inr hd')]
      have:=k.2
      simp only [zFF,hd'] at this
      exact this
     ·rw [(hu.p (hs.pure hje)).2 t hd']
      exact hA.t t fun hp=>ht (hpend t hd' hp)⟩) hst
    refine zEB hH (hF.mono hle) hG hS hT hr hdo hst1 fun g' a1' σ' act' w' loc' k1 k2 k3 k4 => ?_
    obtain ⟨rfl,k4⟩:=k4
    refine ih (listed.setIfInBounds j true) done f a a1' _ g' w' act' loc' hc' ⟨by simpa using hI.size,hclosed',fun e he=>⟨(hset _).2 (.inr (hI.doneD e he).1),(hI.doneD e he).2⟩,fun e he hl => ?_⟩ hC k4 (hle.trans k1) (hG.monoX k1) k2 k3
    rcases (hset e).1 hl with rfl | hl
    ·exact absurd he hje
    ·exact hI.doneE e he hl

theorem zFU {Q:zDW} {a:zDN} {σ:zA6} (hH:HOk E H) (hm:E.P.follows .mixedOrders=true) (hr:zE7 n ops=true) (hd:zF9 anc eff ops=true)
  {f:Nat} (h:zFI E H an id ops anc eff f [] (Q .normal) a σ):AWp E rd n (.region id ops true) Q a σ:=by
 refine ⟨fun g w act loc R0 F hF hG hS hT=>wpIn_region_any hm ?_⟩
 obtain ⟨f',a',h1,h2,h3⟩:=zFS hd h
 have hf:∀ i,(Array.replicate ops.size false).getD i false=false:=fun i=>by
  simp only [Array.getD_eq_getD_getElem?,Array.getElem?_replicate]; split <;> rfl
 refine zFT hH hF hr hd ops.size (Array.replicate ops.size false) [] f' a' a σ g _ act loc (by rw [Array.toList_replicate,List.countP_replicate]; simp) ⟨by simp,fun i o hi hl => ?_,fun e he=>absurd he (by simp),fun e he hl => ?_⟩ h1 ⟨h2.symm,fun t ht=>(h3 t fun x hx hn hdx=>ht ⟨x.2,x.1,zFL.1 hx,hf _,hdx,fun hxe=>by
  have he:=zFQ hn
  unfold zFA at he
  have:eff.contains x.2=true:=by simpa using hxe
  rw [this] at he; simp at he⟩).symm⟩ (.refl g) hG hS.drew hT
 ·rw [hf] at hl; cases hl
 ·rw [hf] at hl; cases hl
end
end Go.V
namespace Go.V
open Go.RowKit

abbrev zFV:=Code->zDW->zDN->zA6->Prop

def zFW (ops:Array Oper):List Nat:=ancGo ops.toList []

def zFX (n:Nat) (an:zDM):Code->Bool
 | .region id ops dr=>zE7 n ops&&(!dr || zF9 (zFW ops) (an.eff id) ops)
 | .seq a b=>zFX n an a&&zFX n an b
 | .cond _ a b=>zFX n an a&&zFX n an b
 | .block _ c=>zFX n an c
 | .loop c=>zFX n an c
 | .rangeFunc _ _ a b=>zFX n an a&&zFX n an b
 | .scope c=>zFX n an c
 | _=>true

section
variable {E:Env} {H:zDY} {rd:Option Nat} {n:Nat} {R0:Nat->Option Obj} {loc:Nat->Option Nat} {g:zA2} {σ:zA6} {w:World} {a:zDN} {act:Act} {an:zDM}
def zDN.setC (a:zDN) (c:Operand) (b:Bool):zDN :=
 match c with
 | .tmp d=>a.setB d b
 | _=>a

theorem zFY {G:Nat->AV} {c:Operand} {b:Bool} (hc:(zDO G a c).low = .bool b):a.setC c b=a:=by
 cases c with
 | tmp d=>exact zF2 hc
 | _=>rfl

theorem zFZ (hH:HOk E H) {ann:Ann} {ops:Array Oper} {o:Oper} {K K':zE3} (h:∀ a σ,K a σ->K' a σ) (k:zE6 E H ann ops o K a σ):zE6 E H ann ops o K' a σ :=
 zF3 (S:=fun _=>False) hH ⟨rfl,fun _ _=>rfl⟩ (fun _ _=>id) (fun a' a1' σ' hu k=>by
  have:a1'=a':=by
   have h1:a1'.t=a'.t:=funext fun t=>hu.t t (.inl id)
   have h2:=hu.l
   obtain ⟨t1,l1⟩:=a1'
   obtain ⟨t0,l0⟩:=a'
   simp only at h1 h2
   rw [h1,h2]
  rw [this]; exact h _ _ k) k

theorem zG0 (hH:HOk E H) {id:Nat} {ops:Array Oper} {K K':zE3} (h:∀ a σ,K a σ->K' a σ):∀ (l:List (Oper×Nat)) (a:zDN) (σ:zA6),zFE E H an id ops l K a σ->zFE E H an id ops l K' a σ
 | [],_,_,k=>h _ _ k
 | (o,i) :: l,_,_,k=>zFZ hH (fun a σ k=>⟨k.1,zG0 hH h l a _ k.2⟩) k

end
end Go.V
