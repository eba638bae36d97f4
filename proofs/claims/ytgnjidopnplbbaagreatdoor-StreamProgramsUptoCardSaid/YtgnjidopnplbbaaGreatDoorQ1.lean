/- A part of the proof of the statement S8 (texts brought together and shortened by a program of this work). -/
import Derived.Below
import Derived.Orders
import Derived.Laws.AppendOwn
import Derived.Laws.MakeOwn
import Derived.Laws.CopyRow
import Derived.Laws.StructEq
import Derived.Laws.Tables
import Derived.Great.BuildSlice
import Derived.Lib.AppendZeros
import Derived.MapKept
set_option linter.unusedSimpArgs false
set_option linter.unusedVariables false
namespace Go.V
open Go.RowKit

inductive Cap where
 | any | nn | full | tok (id:Nat)
 deriving DecidableEq,Inhabited

inductive AV where
 | undef
 | bool (b:Bool) | int (k:IntKind) (n:Int) | str (s:ByteArray)
 | nilptr | ptr (id off:Nat) | vptr (cs:List AV)
 | nilslice | slice (sz:Nat) (xs:List AV) (m:Cap) | rslice (id off len:Nat) | view (id off len:Nat)
 | nilmap | map (id:Nat)
 | nilfunc | func (fn:Fn) (first captured:List AV) | yield (id:Nat)
 | niliface | iface (t:Nat) (v:AV)
 | agg (cs:List AV) | tuple (vs:List AV)
 deriving Inhabited

def AV.cells:AV->List AV
 | .agg cs=>cs
 | v=>[v]

def AV.one:AV->Bool
 | .agg _ | .tuple _ | .undef=>false
 | _=>true

def zA0 (xs:List AV):List AV:=xs.flatMap AV.cells

structure zA1 where
 blk:Nat
 tot:Nat
 sz:Nat

structure zA2 where
 F:Nat->Nat->Option Value
 info:Nat->Option zA1
 R:Nat->Option Obj

structure zA2.LeX (g g':zA2):Prop where
 F:∀ b o v,g.F b o=some v->g'.F b o=some v
 info:∀ id i,g.info id=some i->g'.info id=some i
structure zA2.Le (g g':zA2):Prop where
 F:∀ b o v,g.F b o=some v->g'.F b o=some v
 info:∀ id i,g.info id=some i->g'.info id=some i
 R:g'.R=g.R
theorem zA2.Le.x {g g':zA2} (h:g.Le g'):g.LeX g':=⟨h.F,h.info⟩
theorem zA2.LeX.refl (g:zA2):g.LeX g:=⟨fun _ _ _ h=>h,fun _ _ h=>h⟩
theorem zA2.LeX.trans {a b c:zA2} (h:a.LeX b) (k:b.LeX c):a.LeX c:=⟨fun _ _ _ x=>k.F _ _ _ (h.F _ _ _ x),fun _ _ x=>k.info _ _ (h.info _ _ x)⟩

theorem zA2.Le.refl (g:zA2):g.Le g:=⟨fun _ _ _ h=>h,fun _ _ h=>h,rfl⟩
theorem zA2.Le.trans {a b c:zA2} (h:a.Le b) (k:b.Le c):a.Le c:=⟨fun _ _ _ x=>k.F _ _ _ (h.F _ _ _ x),fun _ _ x=>k.info _ _ (h.info _ _ x),k.R.trans h.R⟩

def zA3 (g:zA2) (m:Cap) (a:Addr) (len cap sz:Nat):Prop :=
 match m with
 | .any=>True
 | .nn=>True
 | .full=>cap=len
 | .tok id=>∃ i,g.info id=some i/\(a=⟨i.blk,0,none⟩\/cap=0)/\cap=i.tot/\sz=i.sz

inductive RV (g:zA2):AV->Value->Prop where
 | undef (v:Value):RV g .undef v
 | bool (b:Bool):RV g (.bool b) (.bool b)
 | int (k:IntKind) (n:Int):RV g (.int k n) (.int k n)
 | str (s:ByteArray):RV g (.str s) (.string s)
 | nilptr:RV g .nilptr (.pointer none)
 | ptr (id off:Nat) (i:zA1) (h:g.info id=some i):RV g (.ptr id off) (.pointer (some ⟨i.blk,off,none⟩))
 | vptr (cs:List AV) (b o:Nat) (vs:List Value) (hl:cs.length=vs.length) (hF:∀ i (h:i<vs.length),g.F b (o+i)=some vs[i])
   (hr:∀ i (h:i<cs.length) (h':i<vs.length),RV g cs[i] vs[i]):RV g (.vptr cs) (.pointer (some ⟨b,o,none⟩))
 | nilslice:RV g .nilslice (.slice none 0 0)
 | slice (sz:Nat) (xs:List AV) (m:Cap) (a:Addr) (cap:Nat) (vs:List Value) (hsz:∀ x∈xs,x.cells.length=sz) (hl:(zA0 xs).length=vs.length)
   (hsp:0<vs.length->a.spot=none) (hF:∀ i (h:i<vs.length),g.F a.block (a.off+i)=some vs[i]) (h1:(zA0 xs).all AV.one=true)
   (hr:∀ i (h:i<(zA0 xs).length) (h':i<vs.length),RV g (zA0 xs)[i] vs[i]) (hcap:xs.length<=cap) (hm:zA3 g m a xs.length cap sz) :
   RV g (.slice sz xs m) (.slice (some a) xs.length cap)
 | nilany (sz:Nat):RV g (.slice sz [] .any) (.slice none 0 0)
 | rslice (id off len:Nat) (i:zA1) (a:Addr) (cap:Nat) (h:g.info id=some i) (ha:a=⟨i.blk,off*i.sz,none⟩\/cap=0) (hc:off+cap=i.tot) (hlen:len<=cap) :
   RV g (.rslice id off len) (.slice (some a) len cap)
 | view (id off len:Nat) (i:zA1) (a:Addr) (cap:Nat) (h:g.info id=some i) (ha:a=⟨i.blk,off*i.sz,none⟩\/cap=0) (hc:off+cap<=i.tot) (hlen:len<=cap) :
   RV g (.view id off len) (.slice (some a) len cap)
 | nilmap:RV g .nilmap (.map none)
 | map (id:Nat) (i:zA1) (h:g.info id=some i):RV g (.map id) (.map (some i.blk))
 | nilfunc:RV g .nilfunc .nilFunc
 | func (fn:Fn) (first captured:List AV) (fs cs:Array Value) (hfl:first.length=fs.size) (hcl:captured.length=cs.size)
   (hf:∀ i (h:i<first.length) (h':i<fs.size),RV g first[i] fs[i]) (hc:∀ i (h:i<captured.length) (h':i<cs.size),RV g captured[i] cs[i]) :
   RV g (.func fn first captured) (.func fn fs cs)
 | yield (id:Nat) (i:zA1) (h:g.info id=some i):RV g (.yield id) (.func (.yield i.blk) #[] #[])
 | niliface:RV g .niliface .nilIface
 | iface (t:Nat) (v:AV) (u:Value) (h:RV g v u):RV g (.iface t v) (.iface t u)
 | agg (cs:List AV) (vs:Array Value) (hl:cs.length=vs.size) (hr:∀ i (h:i<cs.length) (h':i<vs.size),RV g cs[i] vs[i]):RV g (.agg cs) (.agg vs)
 | tuple (cs:List AV) (vs:Array Value) (hl:cs.length=vs.size) (hr:∀ i (h:i<cs.length) (h':i<vs.size),RV g cs[i] vs[i]):RV g (.tuple cs) (.tuple vs)

def RVL (g:zA2) (cs:List AV) (vs:List Value):Prop:=cs.length=vs.length/\∀ i (h:i<cs.length) (h':i<vs.length),RV g cs[i] vs[i]

theorem zA3.monoX {g g':zA2} (h:g.LeX g') {m:Cap} {a:Addr} {len cap sz:Nat} (hm:zA3 g m a len cap sz):zA3 g' m a len cap sz:=by
 cases m with
 | any=>exact hm
 | nn=>exact hm
 | full=>exact hm
 | tok id=>obtain ⟨i,hi,r⟩:=hm; exact ⟨i,h.info _ _ hi,r⟩

theorem RV.monoX {g g':zA2} (h:g.LeX g') {a:AV} {v:Value} (r:RV g a v):RV g' a v:=by
 induction r with
 | undef v=>exact .undef v
 | bool b=>exact .bool b
 | int k n=>exact .int k n
 | str s=>exact .str s
 | nilptr=>exact .nilptr
 | ptr id off i hi=>exact .ptr id off i (h.info _ _ hi)
 | vptr cs b o vs hl hF hr ih=>exact .vptr cs b o vs hl (fun i hi=>h.F _ _ _ (hF i hi)) ih
 | nilslice=>exact .nilslice
 | slice sz xs m a cap vs hsz hl hsp hF h1 hr hcap hm ih=>exact .slice sz xs m a cap vs hsz hl hsp (fun i hi=>h.F _ _ _ (hF i hi)) h1 ih hcap (hm.monoX h)
 | nilany sz=>exact .nilany sz
 | rslice id off len i a cap hi ha hc hlen=>exact .rslice id off len i a cap (h.info _ _ hi) ha hc hlen
 | view id off len i a cap hi ha hc hlen=>exact .view id off len i a cap (h.info _ _ hi) ha hc hlen
 | nilmap=>exact .nilmap
 | map id i hi=>exact .map id i (h.info _ _ hi)
 | nilfunc=>exact .nilfunc
 | func fn first captured fs cs hfl hcl hf hc ihf ihc=>exact .func fn first captured fs cs hfl hcl ihf ihc
 | yield id i hi=>exact .yield id i (h.info _ _ hi)
 | niliface=>exact .niliface
 | iface t v u hr ih=>exact .iface t v u ih
 | agg cs vs hl hr ih=>exact .agg cs vs hl ih
 | tuple cs vs hl hr ih=>exact .tuple cs vs hl ih

theorem RV.mono {g g':zA2} (h:g.Le g') {a:AV} {v:Value} (r:RV g a v):RV g' a v:=r.monoX h.x
theorem RVL.monoX {g g':zA2} (h:g.LeX g') {a:List AV} {v:List Value} (r:RVL g a v):RVL g' a v:=⟨r.1,fun i h1 h2=>(r.2 i h1 h2).monoX h⟩
theorem RVL.mono {g g':zA2} (h:g.Le g') {a:List AV} {v:List Value} (r:RVL g a v):RVL g' a v:=r.monoX h.x
theorem RVL.nil (g:zA2):RVL g [] []:=⟨rfl,fun i h=>by simp at h⟩
theorem RVL.cons {g:zA2} {a:AV} {v:Value} {as:List AV} {vs:List Value} (h:RV g a v) (hs:RVL g as vs):RVL g (a :: as) (v :: vs) :=
 ⟨by simp [hs.1],fun i h1 h2=>by
  cases i with
  | zero=>exact h
  | succ i=>exact hs.2 i (by simpa using h1) (by simpa using h2)⟩
theorem RVL.cons_inv {g:zA2} {a:AV} {as:List AV} {vs:List Value} (h:RVL g (a :: as) vs):∃ v vs',vs=v :: vs'/\RV g a v/\RVL g as vs':=by
 obtain ⟨hl,hr⟩:=h
 cases vs with
 | nil=>simp at hl
 | cons v vs' =>
  refine ⟨v,vs',rfl,hr 0 (by simp) (by simp),by simpa using hl,fun i h1 h2 => ?_⟩
  exact hr (i+1) (by simpa using h1) (by simpa using h2)
theorem RVL.nil_inv {g:zA2} {vs:List Value} (h:RVL g [] vs):vs=[]:=by
 cases vs with
 | nil=>rfl
 | cons v vs=>simp [RVL] at h
theorem RVL.append {g:zA2} {as bs:List AV} {us vs:List Value} (h:RVL g as us) (k:RVL g bs vs):RVL g (as++bs) (us++vs):=by
 induction as generalizing us with
 | nil=>have:=h.nil_inv; subst this; exact k
 | cons a as ih=>obtain ⟨v,vs',rfl,h1,h2⟩:=h.cons_inv; exact .cons h1 (ih h2)
theorem RVL.take {g:zA2} {as:List AV} {us:List Value} (h:RVL g as us) (n:Nat):RVL g (as.take n) (us.take n) :=
 ⟨by simp [h.1],fun i h1 h2=>by simp only [List.getElem_take]; exact h.2 i (by simp at h1; omega) (by simp at h2; omega)⟩
theorem RVL.drop {g:zA2} {as:List AV} {us:List Value} (h:RVL g as us) (n:Nat):RVL g (as.drop n) (us.drop n) :=
 ⟨by simp [h.1],fun i h1 h2=>by simp only [List.getElem_drop]; exact h.2 (n+i) (by simp at h1; omega) (by simp at h2; omega)⟩
theorem RVL.get {g:zA2} {as:List AV} {us:List Value} (h:RVL g as us) {i:Nat} {a:AV} (ha:as[i]? = some a):∃ u,us[i]? = some u/\RV g a u:=by
 obtain ⟨hi,rfl⟩:=List.getElem?_eq_some_iff.1 ha
 have hi':i<us.length:=by rw [<-h.1]; exact hi
 exact ⟨us[i],List.getElem?_eq_getElem hi',h.2 i hi hi'⟩
theorem RVL.replicate:Nat.succ 7=8:=rfl
theorem RVL.flatRep {g:zA2} {as:List AV} {us:List Value} (h:RVL g as us) (n:Nat):RVL g (List.replicate n as).flatten (List.replicate n us).flatten:=by
 induction n with
 | zero=>exact RVL.nil g
 | succ n ih=>simp only [List.replicate_succ,List.flatten_cons]; exact h.append ih

theorem RV.one {g:zA2} {a:AV} {v:Value} (h:RV g a v) (ha:a.one=true):v.oneCell'=true:=by
 cases h <;> first | rfl | (simp [AV.one] at ha; done)
theorem RVL.one {g:zA2} {as:List AV} {us:List Value} (h:RVL g as us) (ha:as.all AV.one=true):∀ u∈us,u.oneCell'=true:=by
 intro u hu
 obtain ⟨i,hi,rfl⟩:=List.getElem_of_mem hu
 have hi':i<as.length:=by rw [h.1]; exact hi
 exact (h.2 i hi' hi).one (List.all_eq_true.1 ha _ (List.getElem_mem hi'))

theorem RV.cells {g:zA2} {a:AV} {v:Value} (h:RV g a v) (ha:a ≠ .undef):RVL g a.cells v.cells.toList:=by
 cases h with
 | agg cs vs hl hr =>
  refine ⟨by simpa [AV.cells,Value.cells] using hl,fun i h1 h2 => ?_⟩
  have h3:i<vs.size:=by simpa [Value.cells] using h2
  have:=hr i h1 h3
  show RV g cs[i] vs.toList[i]
  rw [Array.getElem_toList]; exact this
 | undef v=>exact absurd rfl ha
 | ptr id off i hi=>exact .cons (.ptr id off i hi) (.nil g)
 | vptr cs b o vs hl hF hr=>exact .cons (.vptr cs b o vs hl hF hr) (.nil g)
 | slice sz xs m a cap vs hsz hl hsp hF h1 hr hcap hm=>exact .cons (.slice sz xs m a cap vs hsz hl hsp hF h1 hr hcap hm) (.nil g)
 | nilany sz=>exact .cons (.nilany sz) (.nil g)
 | rslice id off len i a cap hi h1 h2 h3=>exact .cons (.rslice id off len i a cap hi h1 h2 h3) (.nil g)
 | view id off len i a cap hi h1 h2 h3=>exact .cons (.view id off len i a cap hi h1 h2 h3) (.nil g)
 | map id i hi=>exact .cons (.map id i hi) (.nil g)
 | func fn first captured fs cs hfl hcl hf hc=>exact .cons (.func fn first captured fs cs hfl hcl hf hc) (.nil g)
 | yield id i hi=>exact .cons (.yield id i hi) (.nil g)
 | iface t v u hr=>exact .cons (.iface t v u hr) (.nil g)
 | tuple cs vs hl hr=>exact .cons (.tuple cs vs hl hr) (.nil g)
 | bool b=>exact .cons (.bool b) (.nil g)
 | int k n=>exact .cons (.int k n) (.nil g)
 | str s=>exact .cons (.str s) (.nil g)
 | nilptr=>exact .cons .nilptr (.nil g)
 | nilslice=>exact .cons .nilslice (.nil g)
 | nilmap=>exact .cons .nilmap (.nil g)
 | nilfunc=>exact .cons .nilfunc (.nil g)
 | niliface=>exact .cons .niliface (.nil g)

structure zA4 where
 n:Nat
 tm:Nat->AV
 ps:List Nat
 assign:Code
 body:Code
 st:LoopState
 pend:Option Code
 own:Nat
 deriving Inhabited

inductive zA5 where
 | dead
 | cells (cs:List AV) (e sz:Nat) (grow:Bool)
 | tok (n:Nat) (e sz:Nat)
 | map (es:List (AV×AV))
 | siter (s:ByteArray) (pos:Nat)
 | loop (l:zA4)
 | cmap (es:List (AV×AV))
 deriving Inhabited

structure zA6 where
 objs:Nat->zA5
 next:Nat

def zA6.set (σ:zA6) (id:Nat) (o:zA5):zA6:={ σ with objs:=fun j=>if j=id then o else σ.objs j }
def zA6.new (σ:zA6) (o:zA5):zA6:={ objs:=fun j=>if j=σ.next then o else σ.objs j,next:=σ.next+1 }

def zA7 (B:Nat) (g:zA2) (w:World) (id:Nat):zA5->Prop
 | .dead=>True
 | .cells cs e sz grow=>∃ i c,g.info id=some i/\i.sz=sz/\B<=i.blk/\w.heap[i.blk]? = some (.cells c e (0,0))/\cs.length<=c.size/\(grow=false->cs.length=c.size)/\c.size=i.tot*i.sz/\i.tot<=maxLen /\
   RVL g cs (c.toList.take cs.length)/\cs.all AV.one=true/\∀ o,g.F i.blk o=none
 | .tok n e sz=>∃ i c,g.info id=some i/\i.sz=sz/\B<=i.blk/\w.heap[i.blk]? = some (.cells c e (0,0))/\n<=i.tot/\c.size=i.tot*i.sz/\i.tot<=maxLen/\∀ o,n*i.sz<=o->g.F i.blk o=none
 | .map es=>∃ i ms clock,g.info id=some i/\B<=i.blk/\w.heap[i.blk]? = some (.map ms clock)/\es.length=ms.size /\
   ∀ k (h:k<es.length) (h':k<ms.size),RV g (es[k]).1 (ms[k]).key/\RV g (es[k]).2 (ms[k]).val
 | .siter s pos=>∃ i,g.info id=some i/\B<=i.blk/\w.heap[i.blk]? = some (.stringIter s pos)
 | .loop l=>∃ i r,g.info id=some i/\B<=i.blk/\w.heap[i.blk]? = some (.loop r)/\r.tmps.size=l.n/\(∀ t,RV g (l.tm t) (r.tmps.getD t undef))/\r.params.toList=l.ps /\
   r.assign=l.assign/\r.body=l.body/\r.state=l.st/\r.pending=l.pend
 | .cmap es=>∃ i ms clock,∃ es':List (AV×AV),g.info id=some i/\B<=i.blk/\w.heap[i.blk]? = some (.map ms clock)/\es'.length=ms.size /\
   (∀ k (h:k<es'.length) (h':k<ms.size),RV g (es'[k]).1 (ms[k]).key/\RV g (es'[k]).2 (ms[k]).val)/\es'.Perm es

structure Sim (B:Nat) (w0:World) (g:zA2) (σ:zA6) (w:World):Prop where
 below:Below B w0 w
 size:B<=w.heap.size
 froz:∀ b o v,g.F b o=some v->w.cell? ⟨b,o,none⟩=some v
 objs:∀ id,zA7 B g w id (σ.objs id)
 inj:∀ i j pi pj,g.info i=some pi->g.info j=some pj->σ.objs i ≠ .dead->σ.objs j ≠ .dead->i≠j->pi.blk≠pj.blk
 next:∀ id,σ.next<=id->g.info id=none/\σ.objs id = .dead
 res:∀ b x,g.R b=some x->w.heap[b]? = some x
 resF:∀ b o x,g.R b=some x->g.F b o=none
 resO:∀ id i,σ.objs id ≠ .dead->g.info id=some i->g.R i.blk=none

theorem Sim.live {B:Nat} {w0:World} {g:zA2} {σ:zA6} {w:World} (h:Sim B w0 g σ w) {id:Nat} (hd:σ.objs id ≠ .dead):id<σ.next:=by
 rcases Nat.lt_or_ge id σ.next with h1 | h1
 ·exact h1
 ·exact absurd (h.next id h1).2 hd

theorem zA7.blk {B:Nat} {g:zA2} {w:World} {id:Nat} {o:zA5} (h:zA7 B g w id o) (hd:o ≠ .dead):∃ i,g.info id=some i/\B<=i.blk/\i.blk<w.heap.size:=by
 cases o with
 | dead=>exact absurd rfl hd
 | cells cs e sz grow=>obtain ⟨i,c,h1,_,h2,h3,_⟩:=h; exact ⟨i,h1,h2,(Array.getElem?_eq_some_iff.1 h3).1⟩
 | tok n e sz=>obtain ⟨i,c,h1,_,h2,h3,_⟩:=h; exact ⟨i,h1,h2,(Array.getElem?_eq_some_iff.1 h3).1⟩
 | map es=>obtain ⟨i,ms,cl,h1,h2,h3,_⟩:=h; exact ⟨i,h1,h2,(Array.getElem?_eq_some_iff.1 h3).1⟩
 | siter s pos=>obtain ⟨i,h1,h2,h3⟩:=h; exact ⟨i,h1,h2,(Array.getElem?_eq_some_iff.1 h3).1⟩
 | loop l=>obtain ⟨i,r,h1,h2,h3,_⟩:=h; exact ⟨i,h1,h2,(Array.getElem?_eq_some_iff.1 h3).1⟩
 | cmap es=>obtain ⟨i,ms,cl,es',h1,h2,h3,_⟩:=h; exact ⟨i,h1,h2,(Array.getElem?_eq_some_iff.1 h3).1⟩

theorem zA7.keep {B:Nat} {g g':zA2} {w w':World} {id:Nat} {o:zA5} (h:zA7 B g w id o) (hle:g.Le g')
  (hb:∀ i,g.info id=some i->w'.heap[i.blk]? = w.heap[i.blk]?) (hF:∀ i b,g.info id=some i->o ≠ .dead->g'.F i.blk b=g.F i.blk b):zA7 B g' w' id o:=by
 cases o with
 | dead=>trivial
 | cells cs e sz grow =>
  obtain ⟨i,c,h1,hs,h2,h3,h4,h5,h6,h7,h8,h9,h10⟩:=h
  exact ⟨i,c,hle.info _ _ h1,hs,h2,by rw [hb i h1,h3],h4,h5,h6,h7,h8.mono hle,h9,fun o=>by rw [hF i o h1 (by simp)]; exact h10 o⟩
 | tok n e sz =>
  obtain ⟨i,c,h1,hs,h2,h3,h4,h5,h6,h7⟩:=h
  exact ⟨i,c,hle.info _ _ h1,hs,h2,by rw [hb i h1,h3],h4,h5,h6,fun o ho=>by rw [hF i o h1 (by simp)]; exact h7 o ho⟩
 | map es =>
  obtain ⟨i,ms,cl,h1,h2,h3,h4,h5⟩:=h
  exact ⟨i,ms,cl,hle.info _ _ h1,h2,by rw [hb i h1,h3],h4,fun k hk hk'=>⟨(h5 k hk hk').1.mono hle,(h5 k hk hk').2.mono hle⟩⟩
 | siter s pos =>
  obtain ⟨i,h1,h2,h3⟩:=h
  exact ⟨i,hle.info _ _ h1,h2,by rw [hb i h1,h3]⟩
 | loop l =>
  obtain ⟨i,r,h1,h2,h3,h4,h5,h6⟩:=h
  exact ⟨i,r,hle.info _ _ h1,h2,by rw [hb i h1,h3],h4,fun t=>(h5 t).mono hle,h6⟩
 | cmap es =>
  obtain ⟨i,ms,cl,es',h1,h2,h3,h4,h5,h6⟩:=h
  exact ⟨i,ms,cl,es',hle.info _ _ h1,h2,by rw [hb i h1,h3],h4,fun k hk hk'=>⟨(h5 k hk hk').1.mono hle,(h5 k hk hk').2.mono hle⟩,h6⟩

structure zA6.Le (σ' σ:zA6):Prop where
 next:σ'.next=σ.next
 objs:∀ id,σ'.objs id=σ.objs id\/σ'.objs id = .dead

theorem zA6.Le.refl (σ:zA6):σ.Le σ:=⟨rfl,fun _ => .inl rfl⟩

theorem Sim.forget {B:Nat} {w0:World} {g:zA2} {σ σ':zA6} {w:World} (h:Sim B w0 g σ w) (hl:σ'.Le σ):Sim B w0 g σ' w where
 below:=h.below
 size:=h.size
 froz:=h.froz
 objs id:=by
  rcases hl.objs id with e | e
  ·rw [e]; exact h.objs id
  ·rw [e]; trivial
 inj i j pi pj h1 h2 h3 h4 h5:=by
  refine h.inj i j pi pj h1 h2 ?_ ?_ h5
  ·rcases hl.objs i with e | e
   ·rwa [e] at h3
   ·exact absurd e h3
  ·rcases hl.objs j with e | e
   ·rwa [e] at h4
   ·exact absurd e h4
 next id hid:=by
  rw [hl.next] at hid
  refine ⟨(h.next id hid).1,?_⟩
  rcases hl.objs id with e | e
  ·rw [e]; exact (h.next id hid).2
  ·exact e
 res:=h.res
 resF:=h.resF
 resO id i h1 h2:=h.resO id i (by
  rcases hl.objs id with e | e
  ·rwa [e] at h1
  ·exact absurd e h1) h2

end Go.V
namespace Go.V
open Go.RowKit

def zA2.add (g:zA2) (id:Nat) (i:zA1):zA2:={ g with info:=fun j=>if j=id then some i else g.info j }
def zA2.frz (g:zA2) (b:Nat) (vs:List Value):zA2:={ g with F:=fun b' o=>if b'=b then vs[o]? else g.F b' o }

theorem zA2.le_add {g:zA2} {id:Nat} (h:g.info id=none) (i:zA1):g.Le (g.add id i) :=
 ⟨fun _ _ _ h=>h,fun j x hj=>by
  show (if j=id then some i else g.info j)=some x
  split
  ·rename_i e; subst e; rw [h] at hj; cases hj
  ·exact hj,rfl⟩
theorem zA2.le_frz {g:zA2} {b:Nat} {vs:List Value} (h:∀ o v,g.F b o=some v->vs[o]? = some v):g.Le (g.frz b vs) :=
 ⟨fun b' o v hv=>by
  show (if b'=b then vs[o]? else g.F b' o)=some v
  split
  ·rename_i e; subst e; exact h o v hv
  ·exact hv,fun _ _ h=>h,rfl⟩
@[simp] theorem zA2.add_info (g:zA2) (id:Nat) (i:zA1):(g.add id i).info id=some i:=by simp [zA2.add]
@[simp] theorem zA2.frz_info (g:zA2) (b:Nat) (vs:List Value) (id:Nat):(g.frz b vs).info id=g.info id:=rfl
@[simp] theorem zA2.add_F (g:zA2) (id:Nat) (i:zA1) (b o:Nat):(g.add id i).F b o=g.F b o:=rfl
@[simp] theorem zA2.frz_F (g:zA2) (b:Nat) (vs:List Value) (o:Nat):(g.frz b vs).F b o=vs[o]?:=by simp [zA2.frz]
theorem zA2.frz_F_ne (g:zA2) {b b':Nat} (vs:List Value) (o:Nat) (h:b'≠b):(g.frz b vs).F b' o=g.F b' o:=by simp [zA2.frz,h]

theorem Sim.F_lt {B:Nat} {w0:World} {g:zA2} {σ:zA6} {w:World} (h:Sim B w0 g σ w) {b o:Nat} {v:Value} (hv:g.F b o=some v):b<w.heap.size :=
 World.block_lt_of_cell? w ⟨b,o,none⟩ (h.froz b o v hv)
theorem Sim.F_new {B:Nat} {w0:World} {g:zA2} {σ:zA6} {w:World} (h:Sim B w0 g σ w) (o:Nat):g.F w.heap.size o=none:=by
 cases hv:g.F w.heap.size o with
 | none=>rfl
 | some v=>exact absurd (h.F_lt hv) (Nat.lt_irrefl _)

theorem Sim.R_new {B:Nat} {w0:World} {g:zA2} {σ:zA6} {w:World} (h:Sim B w0 g σ w):g.R w.heap.size=none:=by
 cases hv:g.R w.heap.size with
 | none=>rfl
 | some x=>exact absurd (Array.getElem?_eq_some_iff.1 (h.res _ _ hv)).1 (Nat.lt_irrefl _)

theorem Sim.turn {B:Nat} {w0:World} {g g':zA2} {σ σ':zA6} {w w':World} (h:Sim B w0 g σ w) (r:Nat) (ch:Nat->Prop)
  (hle:g.Le g') (hRr:g.R r=none) (hBr:B<=r) (hos:w'.os=w.os) (htape:w'.tape=w.tape) (hout:w'.output=w.output) (hsize:w.heap.size<=w'.heap.size)
  (hw:∀ b,b≠r->b<w.heap.size->w'.heap[b]? = w.heap[b]?)
  (hF:∀ b o,b≠r->g'.F b o=g.F b o) (hFr:∀ o v,g'.F r o=some v->w'.cell? ⟨r,o,none⟩=some v)
  (hch:∀ id,¬ ch id->σ'.objs id=σ.objs id/\(σ.objs id ≠ .dead->∀ i,g.info id=some i->i.blk≠r))
  (hok:∀ id,ch id->zA7 B g' w' id (σ'.objs id))
  (hone:∀ i j,ch i->ch j->σ'.objs i ≠ .dead->σ'.objs j ≠ .dead->i=j)
  (hblk:∀ id i,ch id->σ'.objs id ≠ .dead->g'.info id=some i->i.blk=r)
  (hnext:∀ id,σ'.next<=id->g'.info id=none/\σ'.objs id = .dead):Sim B w0 g' σ' w':=by
 have hbw:Below B w w':=⟨hos,htape,hout,hsize,fun k hk=>hw k (by omega) (by have:=h.size; omega)⟩
 have old:∀ id,¬ ch id->σ'.objs id ≠ .dead->∀ i,g'.info id=some i->g.info id=some i/\i.blk≠r:=by
  intro id hc hd i hi
  obtain ⟨e,hb⟩:=hch id hc
  have hd':σ.objs id ≠ .dead:=by rwa [e] at hd
  obtain ⟨i',hi',_,_⟩:=(h.objs id).blk hd'
  have:=hle.info _ _ hi'
  rw [hi] at this
  cases this
  exact ⟨hi',hb hd' i hi'⟩
 have hres:∀ b x,g.R b=some x->b≠r/\b<w.heap.size:=fun b x hb=>⟨(fun e=>by subst e; rw [hRr] at hb; cases hb),(Array.getElem?_eq_some_iff.1 (h.res b x hb)).1⟩
 refine ⟨h.below.trans hbw,by have:=h.size; omega,?_,?_,?_,hnext,?_,?_,?_⟩
 ·intro b o v hv
  by_cases hb:b=r
  ·subst hb; exact hFr o v hv
  ·rw [hF b o hb] at hv
   have hlt:=h.F_lt hv
   rw [World.cell?_of_block (w:=w) (w':=w') (a:=⟨b,o,none⟩) (hw b hb hlt)]
   exact h.froz b o v hv
 ·intro id
  by_cases hc:ch id
  ·exact hok id hc
  ·obtain ⟨e,hb⟩:=hch id hc
   rw [e]
   by_cases hd:σ.objs id = .dead
   ·rw [hd]; trivial
   ·obtain ⟨i',hi',_,hlt⟩:=(h.objs id).blk hd
    refine (h.objs id).keep hle (fun i hi => ?_) (fun i b hi _ => ?_)
    ·rw [hi'] at hi; cases hi; exact hw _ (hb hd _ hi') hlt
    ·rw [hi'] at hi; cases hi; exact hF _ _ (hb hd _ hi')
 ·intro i j pi pj h1 h2 h3 h4 h5
  by_cases hi:ch i
  ·by_cases hj:ch j
   ·exact absurd (hone i j hi hj h3 h4) h5
   ·rw [hblk i pi hi h3 h1]; exact fun e=>(old j hj h4 pj h2).2 e.symm
  ·by_cases hj:ch j
   ·rw [hblk j pj hj h4 h2]; exact (old i hi h3 pi h1).2
   ·have e1:=(hch i hi).1; have e2:=(hch j hj).1
    rw [e1] at h3; rw [e2] at h4
    exact h.inj i j pi pj (old i hi (by rwa [e1]) pi h1).1 (old j hj (by rwa [e2]) pj h2).1 h3 h4 h5
 ·intro b x hb
  rw [hle.R] at hb
  obtain ⟨h1,h2⟩:=hres b x hb
  rw [hw b h1 h2]; exact h.res b x hb
 ·intro b o x hb
  rw [hle.R] at hb
  rw [hF b o (hres b x hb).1]; exact h.resF b o x hb
 ·intro id i h1 h2
  rw [hle.R]
  by_cases hi:ch id
  ·rw [hblk id i hi h1 h2]; exact hRr
  ·have e1:=(hch id hi).1
   have:=old id hi h1 i h2
   rw [e1] at h1
   exact h.resO id i h1 this.1

theorem Sim.drew {B:Nat} {w0:World} {g:zA2} {σ:zA6} {w:World} (h:Sim B w0 g σ w):Sim B w0 g σ w.drew :=
 ⟨h.below.drew,h.size,h.froz,fun id=>(h.objs id).keep (.refl g) (fun _ _=>rfl) (fun _ _ _ _=>rfl),h.inj,h.next,h.res,h.resF,h.resO⟩

theorem zA8 (w:World) (o:Obj):(w.alloc o).heap[w.heap.size]? = some o:=by
 show (w.heap.push o)[w.heap.size]? = _
 simp
theorem zA9 (w:World) (o:Obj) {r:Nat} (h:r<w.heap.size):(w.alloc o).heap[r]? = w.heap[r]?:=by
 show (w.heap.push o)[r]? = _
 rw [Array.getElem?_push_lt h,Array.getElem?_eq_getElem h]

theorem Sim.new {B:Nat} {w0:World} {g:zA2} {σ:zA6} {w:World} (h:Sim B w0 g σ w) (o:zA5) (ob:Obj) (tot sz:Nat)
  (hok:zA7 B (g.add σ.next ⟨w.heap.size,tot,sz⟩) (w.alloc ob) σ.next o) :
  g.Le (g.add σ.next ⟨w.heap.size,tot,sz⟩)/\Sim B w0 (g.add σ.next ⟨w.heap.size,tot,sz⟩) (σ.new o) (w.alloc ob):=by
 have hle:g.Le (g.add σ.next ⟨w.heap.size,tot,sz⟩):=zA2.le_add (h.next _ (Nat.le_refl _)).1 _
 refine ⟨hle,h.turn w.heap.size (·=σ.next) hle h.R_new h.size rfl rfl rfl (by simp) (fun b _ hb=>zA9 w ob hb) (fun _ _ _=>rfl) ?_ ?_ ?_ ?_ ?_ ?_⟩
 ·intro o v hv
  rw [zA2.add_F,h.F_new] at hv
  cases hv
 ·intro id hid
  refine ⟨by simp [zA6.new,hid],fun hd i hi e => ?_⟩
  obtain ⟨i',hi',_,hlt⟩:=(h.objs id).blk hd
  rw [hi'] at hi; cases hi
  omega
 ·rintro id rfl
  simpa [zA6.new] using hok
 ·rintro i j rfl rfl _ _; rfl
 ·rintro id i rfl _ hi
  rw [zA2.add_info] at hi
  cases hi; rfl
 ·intro id hid
  have:σ.next+1<=id:=hid
  have hne:id≠σ.next:=by omega
  refine ⟨?_,by simp [zA6.new,hne]; exact (h.next id (by omega)).2⟩
  show (if id=σ.next then _ else g.info id)=none
  rw [if_neg hne]
  exact (h.next id (by omega)).1

theorem Sim.newFrozen {B:Nat} {w0:World} {g:zA2} {σ:zA6} {w:World} (h:Sim B w0 g σ w) (c:Array Value) (e:Nat) :
  g.Le (g.frz w.heap.size c.toList)/\Sim B w0 (g.frz w.heap.size c.toList) σ (w.alloc (.cells c e)):=by
 have hle:g.Le (g.frz w.heap.size c.toList):=zA2.le_frz fun o v hv=>by rw [h.F_new] at hv; cases hv
 refine ⟨hle,h.turn w.heap.size (fun _=>False) hle h.R_new h.size rfl rfl rfl (by simp) (fun b _ hb=>zA9 w _ hb) (fun b o hb=>zA2.frz_F_ne g _ _ hb) ?_ ?_ ?_ ?_ ?_ ?_⟩
 ·intro o v hv
  rw [zA2.frz_F] at hv
  rw [World.cell?_alloc_new]
  simpa using hv
 ·intro id _
  refine ⟨rfl,fun hd i hi e => ?_⟩
  obtain ⟨i',hi',_,hlt⟩:=(h.objs id).blk hd
  rw [hi'] at hi; cases hi
  omega
 ·exact fun _ hf=>hf.elim
 ·exact fun _ _ hf=>hf.elim
 ·exact fun _ _ hf=>hf.elim
 ·exact fun id hid=>h.next id hid

theorem Sim.newTok {B:Nat} {w0:World} {g:zA2} {σ:zA6} {w:World} (h:Sim B w0 g σ w) (c:Array Value) (e n tot sz:Nat) (hn:n<=tot) (hc:c.size=tot*sz) (hm:tot<=maxLen) :
  let g':=(g.frz w.heap.size (c.toList.take (n*sz))).add σ.next ⟨w.heap.size,tot,sz⟩
  g.Le g'/\Sim B w0 g' (σ.new (.tok n e sz)) (w.alloc (.cells c e)):=by
 intro g'
 have hle0:g.Le (g.frz w.heap.size (c.toList.take (n*sz))):=zA2.le_frz fun o v hv=>by rw [h.F_new] at hv; cases hv
 have hle:g.Le g':=hle0.trans (zA2.le_add (by rw [zA2.frz_info]; exact (h.next _ (Nat.le_refl _)).1) _)
 refine ⟨hle,h.turn w.heap.size (·=σ.next) hle h.R_new h.size rfl rfl rfl (by simp) (fun b _ hb=>zA9 w _ hb) (fun b o hb=>zA2.frz_F_ne g _ _ hb) ?_ ?_ ?_ ?_ ?_ ?_⟩
 ·intro o v hv
  have hv':(c.toList.take (n*sz))[o]? = some v:=by simpa [g'] using hv
  rw [World.cell?_alloc_new]
  rw [List.getElem?_take] at hv'
  split at hv'
  ·simpa using hv'
  ·cases hv'
 ·intro id hid
  refine ⟨by simp [zA6.new,hid],fun hd i hi e => ?_⟩
  obtain ⟨i',hi',_,hlt⟩:=(h.objs id).blk hd
  rw [hi'] at hi; cases hi
  omega
 ·rintro id rfl
  have e1:(σ.new (.tok n e sz)).objs σ.next = .tok n e sz:=by simp [zA6.new]
  rw [e1]
  refine ⟨⟨w.heap.size,tot,sz⟩,c,by simp [g'],rfl,h.size,zA8 w _,hn,hc,hm,fun o ho => ?_⟩
  show (g'.F w.heap.size o)=none
  have:g'.F w.heap.size o=(c.toList.take (n*sz))[o]?:=by simp [g']
  rw [this]
  apply List.getElem?_eq_none
  rw [List.length_take]
  exact Nat.le_trans (Nat.min_le_left _ _) ho
 ·rintro i j rfl rfl _ _; rfl
 ·rintro id i rfl _ hi
  simp [g'] at hi
  rw [<-hi]
 ·intro id hid
  have:σ.next+1<=id:=hid
  have hne:id≠σ.next:=by omega
  refine ⟨?_,by simp [zA6.new,hne]; exact (h.next id (by omega)).2⟩
  show (if id=σ.next then _ else g.info id)=none
  rw [if_neg hne]
  exact (h.next id (by omega)).1

theorem Sim.write {B:Nat} {w0:World} {g:zA2} {σ:zA6} {w w':World} (h:Sim B w0 g σ w) {id:Nat} {i:zA1} (hi:g.info id=some i) (hd:σ.objs id ≠ .dead)
  (hF:∀ o,g.F i.blk o=none) (hos:w'.os=w.os) (htape:w'.tape=w.tape) (hout:w'.output=w.output) (hsize:w'.heap.size=w.heap.size)
  (hw:∀ b,b≠i.blk->w'.heap[b]? = w.heap[b]?) (o':zA5) (hok:zA7 B g w' id o'):Sim B w0 g (σ.set id o') w':=by
 obtain ⟨i',hi',hB,hlt⟩:=(h.objs id).blk hd
 rw [hi] at hi'; cases hi'
 refine h.turn i.blk (·=id) (.refl g) (h.resO id i hd hi) hB hos htape hout (by omega) (fun b hb _=>hw b hb) (fun _ _ _=>rfl) ?_ ?_ ?_ ?_ ?_ ?_
 ·intro o v hv; rw [hF] at hv; cases hv
 ·intro j hj
  refine ⟨by simp [zA6.set,hj],fun hdj pj hpj e => ?_⟩
  exact h.inj j id pj i hpj hi hdj hd hj e
 ·rintro j rfl; simpa [zA6.set] using hok
 ·rintro a b rfl rfl _ _; rfl
 ·rintro j pj rfl _ hpj; rw [hi] at hpj; cases hpj; rfl
 ·intro j hj
  have hj':σ.next<=j:=hj
  have hne:j≠id:=by have:=h.live hd; omega
  exact ⟨(h.next j hj').1,by simp [zA6.set,hne]; exact (h.next j hj').2⟩

theorem Sim.grow {B:Nat} {w0:World} {g:zA2} {σ:zA6} {w:World} (h:Sim B w0 g σ w) {id n e sz:Nat} {i:zA1} {c:Array Value} (ho:σ.objs id = .tok n e sz) (hi:g.info id=some i)
  (hh:w.heap[i.blk]? = some (.cells c e (0,0))) (news:List Value) (m:Nat) (hm:news.length=m*i.sz) (hfit:n+m<=i.tot) :
  let c':=(c.toList.take (n*i.sz)++news++c.toList.drop (n*i.sz+news.length)).toArray
  let g':=(g.frz i.blk (c.toList.take (n*i.sz)++news)).add σ.next i
  g.Le g'/\Sim B w0 g' ((σ.set id .dead).new (.tok (n+m) e sz)) (w.setRow i.blk c'):=by
 intro c' g'
 have hobj:=h.objs id
 rw [ho] at hobj
 obtain ⟨i',c0,hi',hsz,hB,hh',hn,hc,hmx,hF⟩:=hobj
 rw [hi] at hi'; cases hi'
 rw [hh] at hh'; cases hh'
 have hd:σ.objs id ≠ .dead:=by rw [ho]; simp
 have hlt:i.blk<w.heap.size:=(Array.getElem?_eq_some_iff.1 hh).1
 have hnc:n*i.sz<=c.size:=by rw [hc]; exact Nat.mul_le_mul_right _ hn
 have hmul:(n+m)*i.sz=n*i.sz+m*i.sz:=Nat.add_mul ..
 have hfit':n*i.sz+news.length<=c.size:=by rw [hm,hc,<-hmul]; exact Nat.mul_le_mul_right _ hfit
 have htl:(c.toList.take (n*i.sz)).length=n*i.sz:=by simp; omega
 have hc's:c'.size=c.size:=by simp [c']; omega
 have hc'h:(w.setRow i.blk c').heap[i.blk]? = some (.cells c' e (0,0)):=setRow_heap w i.blk c c' e _ hh
 have hle0:g.Le (g.frz i.blk (c.toList.take (n*i.sz)++news)):=zA2.le_frz fun o v hv=>by
  have h1:=h.froz i.blk o v hv
  have h2:o<n*i.sz:=by
   rcases Nat.lt_or_ge o (n*i.sz) with h3 | h3
   ·exact h3
   ·rw [hF o h3] at hv; cases hv
  simp only [World.cell?,hh,Option.isSome_none,Bool.false_eq_true,if_false] at h1
  rw [List.getElem?_append_left (by omega),List.getElem?_take,if_pos h2]
  simpa using h1
 have hnone:g.info σ.next=none:=(h.next _ (Nat.le_refl _)).1
 have hle:g.Le g':=hle0.trans (zA2.le_add (by rw [zA2.frz_info]; exact hnone) _)
 refine ⟨hle,h.turn i.blk (fun j=>j=id\/j=σ.next) hle (h.resO id i hd hi) hB rfl rfl rfl (by simp [World.setRow]) (fun b hb _=>setRow_other w i.blk b c' hb) (fun b o hb=>zA2.frz_F_ne g _ _ hb) ?_ ?_ ?_ ?_ ?_ ?_⟩
 ·intro o v hv
  have hv':(c.toList.take (n*i.sz)++news)[o]? = some v:=by simpa [g'] using hv
  have ho2:o<(c.toList.take (n*i.sz)++news).length:=(List.getElem?_eq_some_iff.1 hv').1
  simp only [World.cell?,hc'h,Option.isSome_none,Bool.false_eq_true,if_false]
  show c'[o]? = some v
  simp only [c',List.getElem?_toArray]
  rw [List.getElem?_append_left ho2]; exact hv'
 ·intro j hj
  have hj1:j≠id:=fun e=>hj (.inl e)
  have hj2:j≠σ.next:=fun e=>hj (.inr e)
  refine ⟨by simp [zA6.new,zA6.set,hj1,hj2],fun hdj pj hpj e => ?_⟩
  exact h.inj j id pj i hpj hi hdj hd hj1 e
 ·have hidn:id≠σ.next:=by have:=h.live hd; omega
  rintro j (rfl | rfl)
  ·have:((σ.set j .dead).new (.tok (n+m) e sz)).objs j = .dead:=by simp [zA6.new,zA6.set,hidn]
   rw [this]; trivial
  ·have:((σ.set id .dead).new (.tok (n+m) e sz)).objs σ.next = .tok (n+m) e sz:=by simp [zA6.new,zA6.set]
   rw [this]
   refine ⟨i,c',by simp [g'],hsz,hB,hc'h,hfit,by rw [hc's]; exact hc,hmx,fun o ho => ?_⟩
   have:g'.F i.blk o=(c.toList.take (n*i.sz)++news)[o]?:=by simp [g']
   rw [this]
   apply List.getElem?_eq_none
   rw [List.length_append,htl,hm,<-hmul]; exact ho
 ·have hidn:id≠σ.next:=by have:=h.live hd; omega
  intro a b ha hb h3 h4
  have key:∀ j,(j=id\/j=σ.next)->((σ.set id .dead).new (.tok (n+m) e sz)).objs j ≠ .dead->j=σ.next:=by
   rintro j (rfl | rfl) hj
   ·exact absurd (by simp [zA6.new,zA6.set,hidn]) hj
   ·rfl
  rw [key a ha h3,key b hb h4]
 ·have hidn:id≠σ.next:=by have:=h.live hd; omega
  rintro j pj (rfl | rfl) h3 hpj
  ·exact absurd (by simp [zA6.new,zA6.set,hidn]) h3
  ·simp [g'] at hpj
   rw [<-hpj]
 ·intro j hj
  have hj':σ.next+1<=j:=hj
  have hne:j≠σ.next:=by omega
  have hne2:j≠id:=by have:=h.live hd; omega
  refine ⟨?_,by simp [zA6.new,zA6.set,hne,hne2]; exact (h.next j (by omega)).2⟩
  show (if j=σ.next then _ else g.info j)=none
  rw [if_neg hne]
  exact (h.next j (by omega)).1

def zA2.setR (g:zA2) (b:Nat) (o:Obj):zA2:={ g with R:=fun j=>if j=b then some o else g.R j }
theorem zA2.leX_setR (g:zA2) (b:Nat) (o:Obj):g.LeX (g.setR b o):=⟨fun _ _ _ h=>h,fun _ _ h=>h⟩

theorem zA7.R {B:Nat} {g:zA2} {w:World} {id:Nat} {o:zA5} (h:zA7 B g w id o) (R:Nat->Option Obj):zA7 B { g with R:=R } w id o:=by
 have hx:g.LeX { g with R:=R }:=⟨fun _ _ _ h=>h,fun _ _ h=>h⟩
 cases o with
 | dead=>trivial
 | cells cs e sz grow =>
  obtain ⟨i,c,h1,hs,h2,h3,h4,h5,h6,h7,h8,h9,h10⟩:=h
  exact ⟨i,c,h1,hs,h2,h3,h4,h5,h6,h7,h8.monoX hx,h9,h10⟩
 | tok n e sz =>
  obtain ⟨i,c,h1,hs,h2,h3,h4,h5,h6,h7⟩:=h
  exact ⟨i,c,h1,hs,h2,h3,h4,h5,h6,h7⟩
 | map es =>
  obtain ⟨i,ms,cl,h1,h2,h3,h4,h5⟩:=h
  exact ⟨i,ms,cl,h1,h2,h3,h4,fun k a b=>⟨(h5 k a b).1.monoX hx,(h5 k a b).2.monoX hx⟩⟩
 | siter s pos =>
  obtain ⟨i,h1,h2,h3⟩:=h
  exact ⟨i,h1,h2,h3⟩
 | loop l =>
  obtain ⟨i,r,h1,h2,h3,h4,h5,h6⟩:=h
  exact ⟨i,r,h1,h2,h3,h4,fun t=>(h5 t).monoX hx,h6⟩
 | cmap es =>
  obtain ⟨i,ms,cl,es',h1,h2,h3,h4,h5,h6⟩:=h
  exact ⟨i,ms,cl,es',h1,h2,h3,h4,fun k a b=>⟨(h5 k a b).1.monoX hx,(h5 k a b).2.monoX hx⟩,h6⟩

theorem Sim.lessR {B:Nat} {w0:World} {g:zA2} {σ:zA6} {w:World} (h:Sim B w0 g σ w) {R:Nat->Option Obj} (hR:∀ b o,R b=some o->g.R b=some o):Sim B w0 { g with R:=R } σ w where
 below:=h.below
 size:=h.size
 froz:=h.froz
 objs id:=(h.objs id).R R
 inj:=h.inj
 next:=h.next
 res b x hb:=h.res b x (hR b x hb)
 resF b o x hb:=h.resF b o x (hR b x hb)
 resO id i h1 h2:=by
  show R i.blk=none
  cases hv:R i.blk with
  | none=>rfl
  | some x=>have:=h.resO id i h1 h2; rw [hR _ _ hv] at this; cases this

theorem Sim.newLocal {B:Nat} {w0:World} {g:zA2} {σ:zA6} {w:World} (h:Sim B w0 g σ w) (o:Obj):Sim B w0 (g.setR w.heap.size o) σ (w.alloc o) where
 below:=h.below.alloc h.size o
 size:=by have:=h.size; simp; omega
 froz b p v hv:=by
  have hlt:=h.F_lt hv
  rw [World.cell?_alloc_lt w o ⟨b,p,none⟩ hlt]; exact h.froz b p v hv
 objs id:=by
  have hk:zA7 B g (w.alloc o) id (σ.objs id):=by
   by_cases hd:σ.objs id = .dead
   ·rw [hd]; trivial
   ·obtain ⟨i',hi',_,hlt⟩:=(h.objs id).blk hd
    exact (h.objs id).keep (.refl g) (fun i hi=>by rw [hi'] at hi; cases hi; exact zA9 w o hlt) (fun _ _ _ _=>rfl)
  exact hk.R _
 inj:=h.inj
 next:=h.next
 res b x hb:=by
  have hb':(if b=w.heap.size then some o else g.R b)=some x:=hb
  split at hb'
  ·rename_i e; subst e; cases hb'; exact zA8 w _
  ·have:=h.res b x hb'
   rw [zA9 w o (Array.getElem?_eq_some_iff.1 this).1]; exact this
 resF b p x hb:=by
  have hb':(if b=w.heap.size then some o else g.R b)=some x:=hb
  split at hb'
  ·rename_i e; subst e; exact h.F_new p
  ·exact h.resF b p x hb'
 resO id i h1 h2:=by
  obtain ⟨i',hi',_,hlt⟩:=(h.objs id).blk h1
  have h2':g.info id=some i:=h2
  rw [hi'] at h2'; cases h2'
  show (if i.blk=w.heap.size then some o else g.R i.blk)=none
  rw [if_neg (by omega)]
  exact h.resO id _ h1 hi'

theorem Sim.setLocal {B:Nat} {w0:World} {g:zA2} {σ:zA6} {w:World} (h:Sim B w0 g σ w) {b e:Nat} {c:Array Value} (hb:g.R b=some (.cells c e (0,0))) (hB:B<=b) (c':Array Value) :
  Sim B w0 (g.setR b (.cells c' e (0,0))) σ (w.setRow b c') where
 below:=h.below.trans ⟨rfl,rfl,rfl,by simp,fun k hk=>setRow_other w b k c' (by omega)⟩
 size:=by have:=h.size; simp; omega
 froz k p v hv:=by
  have hv1:g.F k p=some v:=hv
  have hne:k≠b:=by intro e; subst e; rw [h.resF k p _ hb] at hv1; cases hv1
  have hc:(w.setRow b c').cell? ⟨k,p,none⟩=w.cell? ⟨k,p,none⟩:=cell_setRow_other w b c' ⟨k,p,none⟩ hne
  rw [hc]; exact h.froz k p v hv
 objs id:=by
  have hk:zA7 B g (w.setRow b c') id (σ.objs id):=by
   by_cases hd:σ.objs id = .dead
   ·rw [hd]; trivial
   ·obtain ⟨i',hi',_,hlt⟩:=(h.objs id).blk hd
    refine (h.objs id).keep (.refl g) (fun i hi => ?_) (fun _ _ _ _=>rfl)
    have hne:i.blk≠b:=by intro e; have:=h.resO id i hd hi; rw [e,hb] at this; cases this
    exact setRow_other w b i.blk c' hne
  exact hk.R _
 inj:=h.inj
 next:=h.next
 res k x hk:=by
  have hk':(if k=b then some (Obj.cells c' e (0,0)) else g.R k)=some x:=hk
  split at hk'
  ·rename_i e1; subst e1; cases hk'
   exact setRow_heap w k c c' e (0,0) (h.res k _ hb)
  ·rename_i hne
   rw [setRow_other w b k c' hne]; exact h.res k x hk'
 resF k p x hk:=by
  have hk':(if k=b then some (Obj.cells c' e (0,0)) else g.R k)=some x:=hk
  split at hk'
  ·rename_i e1; subst e1; exact h.resF k p _ hb
  ·exact h.resF k p x hk'
 resO id i h1 h2:=by
  have h2':g.info id=some i:=h2
  have hne:i.blk≠b:=by intro e; have:=h.resO id i h1 h2'; rw [e,hb] at this; cases this
  show (if i.blk=b then _ else g.R i.blk)=none
  rw [if_neg hne]
  exact h.resO id i h1 h2'

theorem Sim.setMark {B:Nat} {w0:World} {g:zA2} {σ:zA6} {w:World} (h:Sim B w0 g σ w) {b:Nat} {x y:Option (List Deferred)} (hb:g.R b=some (.deferred x)) (hB:B<=b) :
  Sim B w0 (g.setR b (.deferred y)) σ { w with heap:=w.heap.setIfInBounds b (.deferred y) }:=by
 have hne:∀ {k},k≠b->({ w with heap:=w.heap.setIfInBounds b (.deferred y) }:World).heap[k]? = w.heap[k]?:=fun hk=>by simp [Array.getElem?_setIfInBounds_ne (Ne.symm hk)]
 have hlt:b<w.heap.size:=(Array.getElem?_eq_some_iff.1 (h.res b _ hb)).1
 refine ⟨h.below.trans ⟨rfl,rfl,rfl,by simp,fun k hk=>hne (by omega)⟩,by have:=h.size; simp; omega,fun k p v hv => ?_,fun id => ?_,h.inj,h.next,fun k z hk => ?_,fun k p z hk => ?_,fun id i h1 h2 => ?_⟩
 ·have hv1:g.F k p=some v:=hv
  have hk:k≠b:=by intro e; subst e; rw [h.resF k p _ hb] at hv1; cases hv1
  have h1:=h.froz k p v hv1
  unfold World.cell? at h1 ⊢
  rw [hne hk]; exact h1
 ·have hk:zA7 B g { w with heap:=w.heap.setIfInBounds b (.deferred y) } id (σ.objs id):=by
   by_cases hd:σ.objs id = .dead
   ·rw [hd]; trivial
   ·refine (h.objs id).keep (.refl g) (fun i hi => ?_) (fun _ _ _ _=>rfl)
    exact hne (by intro e; have:=h.resO id i hd hi; rw [e,hb] at this; cases this)
  exact hk.R _
 ·have hk':(if k=b then some (Obj.deferred y) else g.R k)=some z:=hk
  split at hk'
  ·rename_i e1; subst e1; cases hk'; simp [hlt]
  ·rename_i hn; rw [hne hn]; exact h.res k z hk'
 ·have hk':(if k=b then some (Obj.deferred y) else g.R k)=some z:=hk
  split at hk'
  ·rename_i e1; subst e1; exact h.resF k p _ hb
  ·exact h.resF k p z hk'
 ·have h2':g.info id=some i:=h2
  have hn:i.blk≠b:=by intro e; have:=h.resO id i h1 h2'; rw [e,hb] at this; cases this
  show (if i.blk=b then _ else g.R i.blk)=none
  rw [if_neg hn]
  exact h.resO id i h1 h2'

theorem Sim.retell {B:Nat} {w0:World} {g:zA2} {σ:zA6} {w:World} (h:Sim B w0 g σ w) {id:Nat} {o':zA5} (hd:σ.objs id ≠ .dead) (hok:zA7 B g w id o'):Sim B w0 g (σ.set id o') w where
 below:=h.below
 size:=h.size
 froz:=h.froz
 objs j:=by
  by_cases e:j=id
  ·subst e; simpa [zA6.set] using hok
  ·simpa [zA6.set,e] using h.objs j
 inj i j pi pj h1 h2 h3 h4 h5:=by
  have key:∀ k,(σ.set id o').objs k ≠ .dead->σ.objs k ≠ .dead:=fun k hk=>by
   by_cases e:k=id
   ·subst e; exact hd
   ·simpa [zA6.set,e] using hk
  exact h.inj i j pi pj h1 h2 (key i h3) (key j h4) h5
 next j hj:=by
  have hj':σ.next<=j:=hj
  have hne:j≠id:=by have:=h.live hd; omega
  exact ⟨(h.next j hj').1,by simp [zA6.set,hne]; exact (h.next j hj').2⟩
 res:=h.res
 resF:=h.resF
 resO k i h1 h2:=h.resO k i (by
  by_cases e:k=id
  ·subst e; exact hd
  ·simpa [zA6.set,e] using h1) h2

end Go.V
namespace Go.V
open Go.RowKit

inductive Ann where
 | none | ref | frz | off
 deriving DecidableEq,Inhabited

inductive Tgt where
 | fn (f:Nat)
 | yield (id:Nat)

inductive Res where
 | ok (v:AV) (σ:zA6)
 | call (f:Tgt) (args:List AV)
 | fail
 /-- One of two outcomes. -/
 | both (v1:AV) (σ1:zA6) (v2:AV) (σ2:zA6)

def av1:Value->AV
 | .bool b => .bool b
 | .int k n => .int k n
 | .string s => .str s
 | .pointer none => .nilptr
 | .slice none 0 0 => .nilslice
 | .map none => .nilmap
 | .func fn fs cs=>if fs.size=0/\cs.size=0 then .func fn [] [] else .undef
 | .nilFunc => .nilfunc
 | .nilIface => .niliface
 | _ => .undef

def av:Value->AV
 | .agg cs => .agg (cs.toList.map av1)
 | .tuple cs => .tuple (cs.toList.map av1)
 | .iface t v => .iface t (av1 v)
 | v=>av1 v

def zAA (G:Nat->AV) (a:Nat->AV):Operand->AV
 | .tmp t=>a t
 | .const v=>av v
 | .global g=>G g
 | .func f => .func (.func f) [] []

section
variable (P:Program)
def szT (t:Nat):Option Nat:=(P.info? t).map (·.size)
def byT (t:Nat):Option Nat:=(P.info? t).map (·.bytes)
def zAB (t:Nat):Option Value:=(P.info? t).bind (·.zero)
def zAC (t:Nat):Option (Option Nat) :=
 match P.underlying t with
 | some (.struct _) | some (.array _ _)=>(szT P t).map some
 | some _=>some none
 | none=>none
def elT (t:Nat):Option Nat:=match P.underlying t with | some (.slice e)=>some e | _=>none
def arrT (t:Nat):Option (Nat×Nat):=match P.underlying t with | some (.array n e)=>some (n,e) | _=>none
def fldT (s f:Nat):Option (Nat×Nat×Nat) :=
 match P.underlying s with
 | some (.struct fs)=>match fs[f]? with
  | some fd=>(szT P fd.type).map fun n=>(fd.type,fd.offset,n)
  | none=>none
 | _=>none
def flds (t:Nat):List Field:=(P.fieldsOf t).toList
def eqOk (t:Nat):Bool:=!(P.eqGuardType P.depth t) && !(P.stoodInHeld t)
def zAD (t:Nat):Option (List (Nat×Nat)) :=
 match P.underlying t with
 | some (.struct fs)=>fs.toList.mapM fun f=>(P.info? f.type).map fun i=>(f.offset,i.size)
 | _=>none

def zAE (t:Nat) (cs:List AV) (off:Nat):Option AV :=
 match zAC P t with
 | some (some n)=>if off+n<=cs.length then some (.agg ((cs.drop off).take n)) else none
 | some none=>cs[off]?
 | none=>none

def zAF (cs:List AV) (off:Nat) (vs:List AV):List AV:=cs.take off++vs++cs.drop (off+vs.length)

def AV.isUndef:AV->Bool
 | .undef=>true
 | _=>false

def zAG (place:Nat->Option (Nat×Nat)) (cells:List AV):List (Nat×AV)->Option (List AV)
 | []=>some cells
 | (i,v) :: rest =>
  match place i with
  | none=>none
  | some (off,size)=>if v.isUndef=false/\v.cells.length=size/\off+size<=cells.length then zAG place (zAF cells off v.cells) rest else none

def zAH (k:Option Nat):List AV->Nat->List AV
 | _,0=>[]
 | cs,n+1 =>
  match k with
  | none=>match cs with
   | []=>[]
   | c :: r=>c :: zAH k r n
  | some m => .agg (cs.take m) :: zAH k (cs.drop m) n

def zAI (a b:ByteArray):Bool:=a.data.toList==b.data.toList
def bslt (a b:ByteArray):Bool:=Op.bytesLess a.data.toList b.data.toList

def aint (op:BinOp) (k:IntKind) (a b:Int):Option AV :=
 match op with
 | .add=>some (.int k (k.wrap (a+b)))
 | .sub=>some (.int k (k.wrap (a - b)))
 | .mul=>some (.int k (k.wrap (a*b)))
 | .quo=>if b=0 then none else some (.int k (k.wrap (a.tdiv b)))
 | .rem=>if b=0 then none else some (.int k (a.tmod b))
 | .and=>some (.int k (k.wrap (BitVec.ofInt k.bits a &&& BitVec.ofInt k.bits b).toNat))
 | .or=>some (.int k (k.wrap (BitVec.ofInt k.bits a ||| BitVec.ofInt k.bits b).toNat))
 | .xor=>some (.int k (k.wrap (BitVec.ofInt k.bits a ^^^ BitVec.ofInt k.bits b).toNat))
 | .eql=>some (.bool (a==b))
 | .neq=>some (.bool (a != b))
 | .lss=>some (.bool (decide (a<b)))
 | .leq=>some (.bool (decide (a<=b)))
 | .gtr=>some (.bool (decide (a > b)))
 | .geq=>some (.bool (decide (a ≥ b)))
 | _=>none

def ashift (op:BinOp) (k:IntKind) (a b:Int):Option AV :=
 if b<0 then none else
 match op with
 | .shl=>some (.int k (k.wrap (a*2 ^ (min b.toNat k.bits))))
 | .shr=>some (.int k (a.fdiv (2 ^ (min b.toNat k.bits))))
 | _=>none

def zAJ (op:BinOp) (a b:ByteArray):Option AV :=
 match op with
 | .add=>if a.size+b.size<=4611686018427387904 then some (.str (a++b)) else none
 | .eql=>some (.bool (zAI a b))
 | .neq=>some (.bool (!zAI a b))
 | .lss=>some (.bool (bslt a b))
 | .leq=>some (.bool (bslt a b || zAI a b))
 | .gtr=>some (.bool (!(bslt a b || zAI a b)))
 | .geq=>some (.bool (!bslt a b))
 | _=>none

def nnil (m:Cap) (xs:List AV):Bool :=
 match m,xs with
 | .any,[]=>false
 | _,_=>true

def anil (t:Nat) (x y:AV):Option Bool :=
 match P.underlying t,x,y with
 | some (.pointer _),.nilptr,.nilptr=>some true
 | some (.pointer _),.nilptr,.ptr _ _ | some (.pointer _),.ptr _ _,.nilptr | some (.pointer _),.nilptr,.vptr _ | some (.pointer _),.vptr _,.nilptr=>some false
 | some (.slice _),.nilslice,.nilslice=>some true
 | some (.slice _),.nilslice,.slice _ xs m | some (.slice _),.slice _ xs m,.nilslice=>if nnil m xs=true then some false else none
 | some (.slice _),.nilslice,.rslice _ _ _ | some (.slice _),.rslice _ _ _,.nilslice=>some false
 | some (.map _ _),.nilmap,.nilmap=>some true
 | some (.map _ _),.nilmap,.map _ | some (.map _ _),.map _,.nilmap=>some false
 | some (.func _ _ _),.nilfunc,.nilfunc=>some true
 | some (.func _ _ _),.nilfunc,.func _ _ _ | some (.func _ _ _),.func _ _ _,.nilfunc=>some false
 | some (.interface _),.niliface,.iface _ _ | some (.interface _),.iface _ _,.niliface=>some false
 | _,_,_=>none

def aeq1 (t:Nat) (x y:AV):Option Bool :=
 match P.underlying t,x,y with
 | some (.int _),.int k a,.int k' b=>if k=k' then some (a==b) else none
 | some .string,.str a,.str b=>some (zAI a b)
 | some .bool,.bool a,.bool b=>some (a==b)
 | _,_,_=>none

def aeqF (xs ys:List AV):List Field->Option Bool
 | []=>some true
 | f :: fs =>
  if f.name ≠ "_" then
   match zAE P f.type xs f.offset,zAE P f.type ys f.offset with
   | some x,some y=>match aeq1 P f.type x y,aeqF xs ys fs with
    | some r,some s=>some (r&&s)
    | _,_=>none
   | _,_=>none
  else aeqF xs ys fs

def aeq (t:Nat) (x y:AV):Option Bool :=
 match x,y with
 | .agg xs,.agg ys=>if eqOk P t=true/\zAC P t=some (some xs.length)/\(arrT P t).isNone=true/\ys.length=xs.length then aeqF P xs ys (flds P t) else none
 | x,y=>aeq1 P t x y

def zAK:Operand->Bool
 | .const _=>true
 | _=>false

def zAL (op:BinOp) (t:Nat) (cst:Bool) (x y:AV):Option AV :=
 match x,y with
 | .int k a,.int k' b=>if op = .shl\/op = .shr then ashift op k a b else if k=k' then aint op k a b else none
 | .str a,.str b=>zAJ op a b
 | .niliface,.niliface =>
  if cst=true then
   match P.underlying t,op with
   | some (.interface _),.eql=>some (.bool true)
   | some (.interface _),.neq=>some (.bool false)
   | _,_=>none
  else none
 | x,y =>
  match op with
  | .eql=>match anil P t x y with
   | some r=>some (.bool r)
   | none=>(aeq P t x y).map .bool
  | .neq=>match anil P t x y with
   | some r=>some (.bool (!r))
   | none=>(aeq P t x y).map fun r => .bool (!r)
  | _=>none

def aun (op:UnOp) (x:AV):Option AV :=
 match op,x with
 | .not,.bool b=>some (.bool (!b))
 | .neg,.int k n=>some (.int k (k.wrap (0 - n)))
 | _,_=>none

def aconv (src dst:Nat) (x:AV):Option AV :=
 match P.underlying src,P.underlying dst,x with
 | some _,some (.int k),.int _ n=>some (.int k (k.wrap n))
 | some _,some .string,.str s=>some (.str s)
 | _,_,_=>none

def zAM (σ:zA6) (t:Nat) (x:AV):Option AV :=
 match x with
 | .vptr cs=>zAE P t cs 0
 | .ptr id off=>match σ.objs id with
  | .cells cs _ _ _=>zAE P t cs off
  | _=>none
 | _=>none

def zAN (σ:zA6) (t:Nat) (x v:AV):Res :=
 match x with
 | .ptr id off=>match σ.objs id with
  | .cells cs e sz grow =>
   if v.isUndef=false/\szT P t=some v.cells.length/\v.cells.all AV.one=true/\off+v.cells.length<=cs.length then
    .ok .undef (σ.set id (.cells (zAF cs off v.cells) e sz grow))
   else .fail
  | _ => .fail
 | _ => .fail

def zAO (σ:zA6) (e:Nat) (cs:List AV):Res :=
 if cs.all AV.one=true/\cs.length<=1048576 then .ok (.ptr σ.next 0) (σ.new (.cells cs e cs.length false)) else .fail

def zAP (x:AV) (y:Nat):Option Nat :=
 match x with
 | .int _ i=>if 0<=i/\i<=y then some i.toNat else none
 | _=>none

def zAQ (len:Nat) (lo hi:Option AV) (top:Nat):Option (Nat×Nat) :=
 match (match hi with | some v=>zAP v top | none=>some len) with
 | some h=>match (match lo with | some v=>zAP v h | none=>some 0) with
  | some l=>some (l,h)
  | none=>none
 | none=>none

def zAR (σ:zA6) (t:Nat) (x:AV) (lo hi mx:Option AV):Option AV :=
 match P.underlying t,x,mx with
 | some .string,.str s,none=>match zAQ s.size lo hi s.size with
  | some (l,h)=>some (.str (s.extract l h))
  | none=>none
 | some (.slice e),.nilslice,none =>
  match szT P e,zAQ 0 lo hi 0 with
  | some _,some _=>some .nilslice
  | _,_=>none
 | some (.slice e),.nilslice,some v =>
  match szT P e,zAP v 0,hi with
  | some _,some _,some _=>match zAQ 0 lo hi 0 with
   | some _=>some .nilslice
   | none=>none
  | _,_,_=>none
 | some (.slice e),.slice sz xs m,none =>
  if szT P e=some sz then
   match zAQ xs.length lo hi xs.length with
   | some (l,h)=>some (.slice sz ((xs.take h).drop l) (if m = .full/\h=xs.length then .full else if m = .any then .any else .nn))
   | none=>none
  else none
 | some (.slice e),.slice sz xs m,some v =>
  if szT P e=some sz/\m ≠ .any then
   match zAP v xs.length,hi with
   | some c,some _=>match zAQ xs.length lo hi c with
    | some (l,h)=>some (.slice sz ((xs.take h).drop l) (if h=c then .full else .nn))
    | none=>none
   | _,_=>none
  else none
 | some (.slice e),.rslice id off len,none =>
  match σ.objs id with
  | .cells _ _ sz _=>if szT P e=some sz then
    match zAQ len lo hi len with
    | some (l,h)=>some (.rslice id (off+l) (h - l))
    | none=>none
   else none
  | _=>none
 | some (.slice e),.rslice id off len,some v =>
  match σ.objs id with
  | .cells _ _ sz _=>if szT P e=some sz then
    match zAP v len,hi with
    | some c,some _=>match zAQ len lo hi c with
     | some (l,h)=>some (.view id (off+l) (h - l))
     | none=>none
    | _,_=>none
   else none
  | _=>none
 | some (.array n e),.vptr cs,none =>
  if szT P e=some 1/\cs.length=n/\cs.all AV.one=true then
   match zAQ n lo hi n with
   | some (l,h)=>some (.slice 1 ((cs.take h).drop l) .nn)
   | none=>none
  else none
 | _,_,_=>none

def zAS (s f:Nat) (x:AV):Option AV :=
 match x,fldT P s f with
 | .agg cs,some (t,off,_)=>zAE P t cs off
 | _,_=>none

def zAT (s f:Nat) (x:AV):Option AV :=
 match fldT P s f with
 | some (_,off,n) =>
  if n=0 then none else
  match x with
  | .ptr id o=>some (.ptr id (o+off))
  | .vptr cs=>if off<=cs.length then some (.vptr (cs.drop off)) else none
  | _=>none
 | none=>none

def zAU (σ:zA6) (t:Nat) (x i:AV):Option AV :=
 match i with
 | .int _ n =>
  match P.underlying t,x with
  | some (.slice e),.slice sz xs _ =>
   if 0<=n/\n<xs.length/\szT P e=some sz/\0<sz then (match xs[n.toNat]? with | some v=>some (.vptr v.cells) | none=>none) else none
  | some (.slice e),.rslice id off len =>
   match σ.objs id with
   | .cells _ _ sz _=>if 0<=n/\n<len/\szT P e=some sz then some (.ptr id ((off+n.toNat)*sz)) else none
   | _=>none
  | some (.array len e),.ptr id off=>match szT P e with
   | some sz=>if 0<=n/\n<len then some (.ptr id (off+n.toNat*sz)) else none
   | none=>none
  | some (.array len e),.vptr cs=>match szT P e with
   | some sz=>if 0<=n/\n<len/\n.toNat*sz<=cs.length then some (.vptr (cs.drop (n.toNat*sz))) else none
   | none=>none
  | _,_=>none
 | _=>none

def zAV (t:Nat) (x i:AV):Option AV :=
 match i with
 | .int _ n =>
  match P.underlying t,x with
  | some (.array len e),.agg cs=>match szT P e with
   | some sz=>if 0<=n/\n<len then zAE P e cs (n.toNat*sz) else none
   | none=>none
  | some .string,.str s=>if 0<=n then (match s.data.toList[n.toNat]? with | some b=>some (.int .u8 b.toNat) | none=>none) else none
  | _,_=>none
 | _=>none

def zAW (k:Nat) (key:AV):List (AV×AV)->Nat->Option (Option (Nat×AV))
 | [],_=>some none
 | e :: es,i=>match aeq P k key e.1 with
  | some true=>some (some (i,e.2))
  | some false=>zAW k key es (i+1)
  | none=>none

def zAX (k:Nat) (key:AV):Bool :=
 match P.underlying k,key with
 | some (.int _),.int _ _=>true
 | some .string,.str _=>true
 | some .bool,.bool _=>true
 | some (.struct fs), .agg cs => fs.toList.map (·.offset) == List.range cs.length && fs.toList.all fun f => f.name != "_" && match P.underlying f.type, zAE P f.type cs f.offset with
  | some (.int _),some (.int _ _)=>true
  | some .string,some (.str _)=>true
  | some .bool,some (.bool _)=>true
  | _,_=>false
 | _,_=>false

def zAY (t:Nat):Option (Nat×Nat):=match P.underlying t with | some (.map k e)=>some (k,e) | _=>none

def zAZ (σ:zA6) (x:AV):Option (List (AV×AV)) :=
 match x with
 | .nilmap=>some []
 | .map id=>match σ.objs id with
  | .map es=>some es
  | _=>none
 | _=>none

def zB0 (σ:zA6) (t:Nat) (x key:AV) (ok:Bool):Option AV :=
 match zAY P t with
 | some (k,e) =>
  if zAX P k key=true then
   match zAZ σ x with
   | some es=>match zAW P k key es 0 with
    | some (some (_,v))=>some (if ok then .tuple [v,.bool true] else v)
    | some none=>match zAB P e with
     | some z=>some (if ok then .tuple [av z,.bool false] else av z)
     | none=>none
    | none=>none
   | none=>none
  else none
 | none=>none

def zB1 (σ:zA6) (x:AV):Option (Nat×List (AV×AV)) :=
 match x with
 | .map id=>match σ.objs id with
  | .cmap es=>some (id,es)
  | _=>none
 | _=>none

def zB2 (k:Nat) (key:AV):List (AV×AV)->Option (List AV)
 | []=>some []
 | e :: es=>match aeq P k key e.1,zB2 k key es with
  | some true,some r=>some (e.2 :: r)
  | some false,some r=>some r
  | _,_=>none

def zB3 (t:Nat) (es:List (AV×AV)) (key:AV) (ok:Bool):Option AV :=
 match zAY P t with
 | some (k,e) =>
  if zAX P k key=true then
   match zB2 P k key es with
   | some [v]=>some (if ok then .tuple [v,.bool true] else v)
   | some []=>match zAB P e with
    | some z=>some (if ok then .tuple [av z,.bool false] else av z)
    | none=>none
   | _=>none
  else none
 | none=>none

def zB4 (σ:zA6) (t:Nat) (x key:AV) (ok:Bool):Option AV :=
 match zB1 σ x with
 | some (_,es)=>zB3 P t es key ok
 | none=>zB0 P σ t x key ok

def zB5 (es:List (AV×AV)) (key v:AV):Option (Nat×AV)->List (AV×AV)
 | some (i,_)=>es.set i (key,v)
 | none=>es++[(key,v)]

def zB6 (σ:zA6) (t:Nat) (x key v:AV):Res :=
 match zAY P t,x with
 | some (k,_),.map id =>
  if zAX P k key=true then
   match σ.objs id with
   | .map es=>match zAW P k key es 0 with
    | some r => .ok .undef (σ.set id (.map (zB5 es key v r)))
    | none => .fail
   | _ => .fail
  else .fail
 | _,_ => .fail

def aext (x:AV) (i:Nat):Option AV :=
 match x with
 | .tuple vs=>vs[i]?
 | _=>none

def alen (σ:zA6) (t:Nat) (x:AV):Option Nat :=
 match P.underlying t,x with
 | some .string,.str s=>some s.size
 | some (.array n _),_=>some n
 | some (.slice _),.nilslice=>some 0
 | some (.slice _),.slice _ xs _=>some xs.length
 | some (.slice _),.rslice _ _ len=>some len
 | some (.map _ _),.nilmap=>some 0
 | some (.map _ _),.map id=>match σ.objs id with
  | .map es=>some es.length
  | _=>none
 | _,_=>none

def zB7 (σ:zA6) (k:Option Nat) (sz:Nat) (x:AV):Option (List AV) :=
 match x with
 | .nilslice=>some []
 | .slice s ys _=>if s=sz/\k.getD 1=sz then some ys else none
 | .rslice id off len=>match σ.objs id with
  | .cells cs _ s _=>if s=sz/\k.getD 1=sz/\(off+len)*sz<=cs.length then some (zAH k ((cs.drop (off*sz)).take (len*sz)) len) else none
  | _=>none
 | .view id off len=>match σ.objs id with
  | .cells cs _ s _=>if s=sz/\k.getD 1=sz/\(off+len)*sz<=cs.length then some (zAH k ((cs.drop (off*sz)).take (len*sz)) len) else none
  | _=>none
 | _=>none

def annR:Ann->Ann
 | .off => .ref
 | a=>a

def zB8 (σ:zA6) (ann:Ann) (t t':Nat) (x y:AV):Res :=
 match elT P t with
 | some e =>
  match szT P e,byT P e,zAB P e,zAC P e with
  | some sz,some by',some z,some k =>
   match zB7 σ k sz y with
   | some ys =>
    if t'≠t then .fail else
    if ys.isEmpty=true then
     (match x with
     | .nilslice | .slice _ _ _ | .rslice _ _ _ => .ok x σ
     | _ => .fail)
    else
     if 0<sz/\z.cells.size=sz then
     match x with
     | .nilslice =>
      if ys.length*by'<=140737488355328/\ys.length<=4611686018427387904 then
       match annR ann with
       | .ref => .ok (.rslice σ.next 0 ys.length) (σ.new (.cells (zA0 ys) e sz true))
       | _ => .ok (.slice sz ys (.tok σ.next)) (σ.new (.tok ys.length e sz))
      else .fail
     | .slice s xs .full =>
      if s=sz/\(xs.length+ys.length)*by'<=140737488355328/\xs.length+ys.length<=4611686018427387904 then
       match annR ann with
       | .ref => .ok (.rslice σ.next 0 (xs++ys).length) (σ.new (.cells (zA0 (xs++ys)) e sz true))
       | _ => .ok (.slice sz (xs++ys) (.tok σ.next)) (σ.new (.tok (xs.length+ys.length) e sz))
      else .fail
     | .slice s xs (.tok id) =>
      if s=sz/\(xs.length+ys.length)*by'<=140737488355328/\xs.length+ys.length<=4611686018427387904 then
       match σ.objs id with
       | .tok n e' s'=>if n=xs.length/\e'=e/\s'=sz then .ok (.slice sz (xs++ys) (.tok σ.next)) ((σ.set id .dead).new (.tok (xs.length+ys.length) e sz)) else .fail
       | _ => .fail
      else .fail
     | .rslice id off len =>
      match ann with
      | .off =>
       if (len+ys.length)*by'<=140737488355328/\len+ys.length<=4611686018427387904 then
        match σ.objs id with
        | .cells cs e' s' _=>if e'=e/\s'=sz/\(off+len)*sz<=cs.length then
          .both (.rslice σ.next off (len+ys.length)) ((σ.set id .dead).new (.cells (cs.take ((off+len)*sz)++zA0 ys) e sz true))
           (.rslice σ.next 0 (len+ys.length)) ((σ.set id .dead).new (.cells ((cs.drop (off*sz)).take (len*sz)++zA0 ys) e sz true))
         else .fail
        | _ => .fail
       else .fail
      | _ =>
      if off=0/\(len+ys.length)*by'<=140737488355328/\len+ys.length<=4611686018427387904 then
       match σ.objs id with
       | .cells cs e' s' _=>if e'=e/\s'=sz/\len*sz<=cs.length then .ok (.rslice σ.next 0 (len+ys.length)) ((σ.set id .dead).new (.cells (cs.take (len*sz)++zA0 ys) e sz true)) else .fail
       | _ => .fail
      else .fail
     | _ => .fail
     else .fail
   | none => .fail
  | _,_,_,_ => .fail
 | none => .fail

def zB9 (σ:zA6) (t t':Nat) (x:AV) (l:Int):Res :=
 match elT P t,P.underlying t',x with
 | some e,some (.int _),.nilslice =>
  match szT P e,byT P e,zAB P e with
  | some sz,some by',some z =>
   if 0<l/\(by':Int)*l<=140737488355328/\l<=4611686018427387904/\(av z).cells.length=sz/\(av z).isUndef=false/\(av z).cells.all AV.one=true/\0<sz then
    .ok (.rslice σ.next 0 l.toNat) (σ.new (.cells (List.replicate l.toNat (av z).cells).flatten e sz true))
   else .fail
  | _,_,_ => .fail
 | _,_,_ => .fail

def zBA (σ:zA6) (ann:Ann) (t t':Nat) (x y:AV):Res :=
 match y with
 | .int _ l=>zB9 P σ t t' x l
 | y=>zB8 P σ ann t t' x y

def zBB (σ:zA6) (k:Option Nat) (x:AV):Res :=
 match x with
 | .rslice id 0 len=>match σ.objs id with
  | .cells cs e sz _=>if k.getD 1=sz/\0<sz/\cs.length=len*sz then .ok (.slice sz (zAH k cs len) (.tok id)) (σ.set id (.tok len e sz)) else .fail
  | _ => .fail
 | .nilslice => .ok .nilslice σ
 | .slice sz xs m => .ok (.slice sz xs m) σ
 | _ => .fail

def zBC (σ:zA6) (t:Nat) (l c:AV):Res :=
 match elT P t,l,c with
 | some e,.int _ l,.int _ c =>
  match szT P e,byT P e,zAB P e with
  | some sz,some by',some z =>
   if 0<=l/\l<=c/\(by':Int)*c<=140737488355328/\c<=4611686018427387904/\(av z).cells.length=sz/\(av z).isUndef=false/\(av z).cells.all AV.one=true/\0<sz then
    .ok (.rslice σ.next 0 l.toNat) (σ.new (.cells (List.replicate c.toNat (av z).cells).flatten e sz false))
   else .fail
  | _,_,_ => .fail
 | _,_,_ => .fail

def zBD (t:Nat) (parts:List (Nat×AV)):Option AV :=
 match zAB P t with
 | some z =>
  if (av z).isUndef=true then none else
  match zAD P t,arrT P t with
  | some places,_=>(zAG (places[·]?) (av z).cells parts).map .agg
  | none,some (_,e)=>match szT P e with
   | some sz=>(zAG (fun i=>some (i*sz,sz)) (av z).cells parts).map .agg
   | none=>none
  | _,_=>none
 | none=>none

def zBE:Nat->List (Nat×AV)->Option (List AV)
 | _,[]=>some []
 | i,(j,v) :: r=>if j=i then (zBE (i+1) r).map (v :: ·) else none

def zBF (σ:zA6) (ann:Ann) (t len:Nat) (parts:List (Nat×AV)):Res :=
 match elT P t with
 | some e =>
  match szT P e,zAB P e,zBE 0 parts with
  | some sz,some z,some xs =>
   if xs.length=len/\xs.all (fun x=>x.cells.length==sz&&x.cells.all AV.one)=true/\len*sz<=16777216/\0<sz/\z.cells.size=sz then
    match ann with
    | .ref => .ok (.rslice σ.next 0 len) (σ.new (.cells (zA0 xs) e sz false))
    | _ => .ok (.slice sz xs .full) σ
   else .fail
  | _,_,_ => .fail
 | none => .fail

def zBG (f:Nat):Bool:=match P.funcs[f]? with
 | some fn => fn.body.isSome && !(fn.name == "runtime.NumGoroutine")
 | none=>false

def zBH (t:Nat) (name:String):Option Nat:=match P.info? t with
 | some ti=>match ti.methods.find? (·.name==name) with
  | some m=>match m.path.isEmpty,m.func,P.underlying t with
   | true,some (f,ptr),some d=>match d,ptr with
    | .pointer _,true=>some f
    | .pointer _,false=>none
    | .interface _,_=>none
    | _,false=>some f
    | _,true=>none
   | _,_,_=>none
  | none=>none
 | none=>none

def amin2 (mx:Bool):AV->AV->Option AV
 | .int k x,.int _ y=>some (.int k (if mx then (if y > x then y else x) else (if y<x then y else x)))
 | _,_=>none

def zBI (σ:zA6) (ann:Ann) (c:Call) (ρ:Operand->AV):Res :=
 match c.callee with
 | .value f=>match ρ f with
  | .func (.func f) first captured=>if zBG P f=true then .call (.fn f) (first++c.args.toList.map ρ++captured) else .fail
  | .yield id => .call (.yield id) (c.args.toList.map ρ)
  | _ => .fail
 | .invoke r name=>match ρ r with
  | .iface t v=>match zBH P t name with
   | some f=>if zBG P f=true then .call (.fn f) (v :: c.args.toList.map ρ) else .fail
   | none => .fail
  | _ => .fail
 | .builtin .len=>match c.argTypes.toList,c.args.toList.map ρ with
  | [t],[x]=>match alen P σ t x with
   | some n => .ok (.int .i64 n) σ
   | none => .fail
  | _,_ => .fail
 | .builtin .append=>match c.argTypes.toList,c.args.toList.map ρ with
  | [t,t'],[x,y]=>zBA P σ ann t t' x y
  | _,_ => .fail
 | .builtin .max=>match c.args.toList.map ρ with
  | [x,y]=>match amin2 true x y with
   | some v => .ok v σ
   | none => .fail
  | _ => .fail
 | .builtin .min=>match c.args.toList.map ρ with
  | [x,y]=>match amin2 false x y with
   | some v => .ok v σ
   | none => .fail
  | _ => .fail
 | .builtin .cap=>match c.argTypes.toList,c.args.toList.map ρ with
  | [t],[.nilslice]=>match P.underlying t with
   | some (.slice _) => .ok (.int .i64 0) σ
   | _ => .fail
  | _,_ => .fail
 | _ => .fail

def Res.of (σ:zA6):Option AV->Res
 | some v => .ok v σ
 | none => .fail

def aop (ann:Ann) (o:Op) (ρ:Operand->AV) (σ:zA6):Res :=
 match o with
 | .move x | .assign x => .ok (ρ x) σ
 | .pick c x y=>match ρ c with
  | .bool b => .ok (if b then ρ x else ρ y) σ
  | _ => .fail
 | .alloc e=>match zAB P e with
  | some z=>zAO σ e (av z).cells
  | none => .fail
 | .box e x=>if (ρ x).isUndef=true then .fail else zAO σ e (ρ x).cells
 | .build t parts => .of σ (zBD P t (parts.toList.map fun p=>(p.1,ρ p.2)))
 | .buildSlice t len parts=>zBF P σ ann t len (parts.toList.map fun p=>(p.1,ρ p.2))
 | .load t x => .of σ (zAM P σ t (ρ x))
 | .store t x v=>zAN P σ t (ρ x) (ρ v)
 | .nilCheck x=>match ρ x with
  | .ptr id off => .ok (.ptr id off) σ
  | .vptr cs => .ok (.vptr cs) σ
  | .func (.func f) a b => .ok (.func (.func f) a b) σ
  | .iface t v => .ok (.iface t v) σ
  | _ => .fail
 | .binOp op t x y _ => .of σ (zAL P op t (zAK x || zAK y) (ρ x) (ρ y))
 | .unOp op _ x => .of σ (aun op (ρ x))
 | .convert s d x => .of σ (aconv P s d (ρ x))
 | .makeInterface t x=>match P.underlying t with
  | some (.interface _) => .fail
  | some _ => .ok (.iface t (ρ x)) σ
  | none => .fail
 | .makeFunc fn first captured => .ok (.func fn (first.toList.map ρ) (captured.toList.map ρ)) σ
 | .makeMap t none => .ok (.map σ.next) (σ.new (.map []))
 | .makeSlice t l c=>zBC P σ t (ρ l) (ρ c)
 | .slice t x lo hi mx => .of σ (zAR P σ t (ρ x) (lo.map ρ) (hi.map ρ) (mx.map ρ))
 | .fieldAddr s x f => .of σ (zAT P s f (ρ x))
 | .field s x f => .of σ (zAS P s f (ρ x))
 | .indexAddr t x i => .of σ (zAU P σ t (ρ x) (ρ i))
 | .index t x i => .of σ (zAV P t (ρ x) (ρ i))
 | .lookup t x k ok => .of σ (zB4 P σ t (ρ x) (ρ k) ok)
 | .mapUpdate t m k x | .insert t m k x=>zB6 P σ t (ρ m) (ρ k) (ρ x)
 | .extract x i => .of σ (aext (ρ x) i)
 | .range t x=>match P.underlying t,ρ x with
  | some .string,.str s => .ok (.ptr σ.next 0) (σ.new (.siter s 0))
  | _,_ => .fail
 | .next x isS=>match ρ x with
  | .ptr id 0=>match σ.objs id,isS with
   | .siter s pos,true =>
    if pos<s.size then .ok (.tuple [.bool true,.int .i64 pos,.int .i32 (Utf8.decode s pos).1]) (σ.set id (.siter s (pos+(Utf8.decode s pos).2)))
    else .ok (.tuple [.bool false]) σ
   | _,_ => .fail
  | _ => .fail
 | .call c=>zBI P σ ann c ρ
 | _ => .fail

end
end Go.V
namespace Go.V
open Go.RowKit

theorem zBJ (b o j:Nat):(⟨b,o,none⟩:Addr).add j=⟨b,o+j,none⟩:=by
 unfold Addr.add
 split
 ·rename_i h; subst h; rfl
 ·rfl

theorem zBK (g:zA2) (v:Value):RV g (av1 v) v:=by
 cases v with
 | bool b=>exact .bool b
 | int k n=>exact .int k n
 | string s=>exact .str s
 | pointer a =>
  cases a with
  | none=>exact .nilptr
  | some a=>exact .undef _
 | slice a l c =>
  cases a with
  | some a=>exact .undef _
  | none =>
   cases l with
   | succ l=>exact .undef _
   | zero=>cases c with
    | zero=>exact .nilslice
    | succ c=>exact .undef _
 | map r =>
  cases r with
  | none=>exact .nilmap
  | some r=>exact .undef _
 | func fn fs cs =>
  simp only [av1]
  split
  ·rename_i h
   obtain ⟨h1,h2⟩:=h
   have e1:fs=#[]:=Array.eq_empty_of_size_eq_zero h1
   have e2:cs=#[]:=Array.eq_empty_of_size_eq_zero h2
   subst e1; subst e2
   exact .func fn [] [] #[] #[] rfl rfl (fun i h=>by simp at h) (fun i h=>by simp at h)
  ·exact .undef _
 | nilFunc=>exact .nilfunc
 | nilIface=>exact .niliface
 | _=>exact .undef _

theorem RVL.map_av1 (g:zA2) (vs:List Value):RVL g (vs.map av1) vs:=⟨by simp,fun i h1 h2=>by simp only [List.getElem_map]; exact zBK g _⟩

theorem RV.agg' {g:zA2} {cs:List AV} {vs:Array Value} (h:RVL g cs vs.toList):RV g (.agg cs) (.agg vs) :=
 .agg cs vs (by simpa using h.1) (fun i h1 h2=>by have:=h.2 i h1 (by simpa using h2); simpa using this)
theorem RV.tuple' {g:zA2} {cs:List AV} {vs:Array Value} (h:RVL g cs vs.toList):RV g (.tuple cs) (.tuple vs) :=
 .tuple cs vs (by simpa using h.1) (fun i h1 h2=>by have:=h.2 i h1 (by simpa using h2); simpa using this)
theorem RV.agg_inv {g:zA2} {cs:List AV} {v:Value} (h:RV g (.agg cs) v):∃ vs:Array Value,v = .agg vs/\RVL g cs vs.toList:=by
 cases h with
 | agg _ vs hl hr=>exact ⟨vs,rfl,by simpa using hl,fun i h1 h2=>by simpa using hr i h1 (by simpa using h2)⟩
theorem RV.tuple_inv {g:zA2} {cs:List AV} {v:Value} (h:RV g (.tuple cs) v):∃ vs:Array Value,v = .tuple vs/\RVL g cs vs.toList:=by
 cases h with
 | tuple _ vs hl hr=>exact ⟨vs,rfl,by simpa using hl,fun i h1 h2=>by simpa using hr i h1 (by simpa using h2)⟩
theorem RV.func_inv {g:zA2} {fn:Fn} {a b:List AV} {v:Value} (h:RV g (.func fn a b) v):∃ fs cs:Array Value,v = .func fn fs cs/\RVL g a fs.toList/\RVL g b cs.toList:=by
 cases h with
 | func _ _ _ fs cs h1 h2 h3 h4=>exact ⟨fs,cs,rfl,⟨by simpa using h1,fun i a b=>by simpa using h3 i a (by simpa using b)⟩,⟨by simpa using h2,fun i a b=>by simpa using h4 i a (by simpa using b)⟩⟩
theorem RV.func' {g:zA2} {fn:Fn} {a b:List AV} {fs cs:Array Value} (h1:RVL g a fs.toList) (h2:RVL g b cs.toList):RV g (.func fn a b) (.func fn fs cs) :=
 .func fn a b fs cs (by simpa using h1.1) (by simpa using h2.1) (fun i x y=>by have:=h1.2 i x (by simpa using y); simpa using this) (fun i x y=>by have:=h2.2 i x (by simpa using y); simpa using this)

theorem zBL (g:zA2) (v:Value):RV g (av v) v:=by
 cases v with
 | agg cs=>exact .agg' (RVL.map_av1 g _)
 | tuple cs=>exact .tuple' (RVL.map_av1 g _)
 | iface t v=>exact .iface t _ v (zBK g v)
 | bool b=>exact zBK g (.bool b)
 | int k n=>exact zBK g (.int k n)
 | float k n=>exact zBK g (.float k n)
 | complex k a b=>exact zBK g (.complex k a b)
 | string s=>exact zBK g (.string s)
 | pointer a=>exact zBK g (.pointer a)
 | slice a l c=>exact zBK g (.slice a l c)
 | map r=>exact zBK g (.map r)
 | chan r=>exact zBK g (.chan r)
 | func fn a b=>exact zBK g (.func fn a b)
 | nilFunc=>exact zBK g (.nilFunc)
 | nilIface=>exact zBK g (.nilIface)

def zBM (g:zA2) (G:Nat->AV):Prop:=∀ k,RV g (G k) (.pointer (some ⟨k,0,none⟩))
structure RelT (n:Nat) (g:zA2) (a:Nat->AV) (act:Act):Prop where
 size:act.tmps.size=n
 tmp:∀ t,RV g (a t) (act.tmps.getD t undef)

theorem zBN {n:Nat} {g:zA2} {G:Nat->AV} {a:Nat->AV} {act:Act} (hG:zBM g G) (h:RelT n g a act) (x:Operand):RV g (zAA G a x) (act.eval x):=by
 cases x with
 | tmp t=>exact h.tmp t
 | const v=>exact zBL g v
 | global k=>exact hG k
 | func f=>exact .func' (.nil g) (.nil g)

section
variable {P:Program} {B:Nat} {w0:World} {g:zA2} {σ:zA6} {w:World}
theorem zBO {t n:Nat} (h:zAC P t=some (some n)) (w:World):(isAgg t).run P w = .ok true w/\(sizeOf t).run P w = .ok n w:=by
 unfold zAC at h
 split at h
 ·rename_i u hu
  simp only [szT] at h
  cases hi:P.info? t with
  | none=>simp [hi] at h
  | some i =>
   simp [hi] at h
   exact ⟨by simp [isAgg,run_underlying hu],by simp [sizeOf,typeInfo,hi,h]⟩
 ·rename_i u1 u2 hu
  simp only [szT] at h
  cases hi:P.info? t with
  | none=>simp [hi] at h
  | some i =>
   simp [hi] at h
   exact ⟨by simp [isAgg,run_underlying hu],by simp [sizeOf,typeInfo,hi,h]⟩
 ·cases h
 ·cases h

theorem zBP {t:Nat} (h:zAC P t=some none) (w:World):(isAgg t).run P w = .ok false w:=by
 unfold zAC at h
 split at h
 ·simp only [szT] at h; cases hi:P.info? t <;> simp [hi] at h
 ·simp only [szT] at h; cases hi:P.info? t <;> simp [hi] at h
 ·rename_i d h1 h2 hu
  simp only [isAgg,Sem.run_bind,run_underlying hu,Result.andThen_ok]
  cases d <;> first | rfl | (exact absurd rfl (h1 _)) | (exact absurd rfl (h2 _ _))
 ·cases h

theorem zBQ {t n:Nat} (h:szT P t=some n) (w:World):(sizeOf t).run P w = .ok n w:=by
 unfold szT at h
 cases hi:P.info? t with
 | none=>simp [hi] at h
 | some i=>simp [hi] at h; simp [sizeOf,typeInfo,hi,h]

theorem zBR {t e:Nat} (h:elT P t=some e):P.underlying t=some (.slice e):=by
 unfold elT at h
 split at h
 ·rename_i e' hu; cases h; exact hu
 ·cases h

theorem zBS {t off:Nat} {cs:List AV} {v:AV} (h:zAE P t cs off=some v) {b o:Nat} {vs:List Value} (hr:RVL g cs vs)
  (hc:∀ j (h:j<vs.length),w.cell? ⟨b,o+j,none⟩=some vs[j]):∃ u,(loadVar t ⟨b,o+off,none⟩).run P w = .ok u w/\RV g v u:=by
 unfold zAE at h
 split at h
 ·rename_i n hk
  obtain ⟨h1,h2⟩:=zBO hk w
  split at h
  ·rename_i hle
   cases h
   have hlen:((vs.drop off).take n).length=n:=by rw [List.length_take,List.length_drop,<-hr.1]; omega
   have hl:=run_loadCells_list (P:=P) w ⟨b,o+off,none⟩ ((vs.drop off).take n) (fun j v hj=>by
    rw [List.getElem?_take] at hj
    split at hj
    ·rw [List.getElem?_drop] at hj
     obtain ⟨hlt,hv⟩:=List.getElem?_eq_some_iff.1 hj
     rw [zBJ,Nat.add_assoc,hc (off+j) hlt,hv]
    ·cases hj)
   rw [hlen] at hl
   refine ⟨.agg ((vs.drop off).take n).toArray,?_,?_⟩
   ·simp [loadVar,h1,h2,hl]
   ·exact .agg' ((hr.drop off).take n)
  ·cases h
 ·rename_i hk
  obtain ⟨u,hu,hru⟩:=hr.get h
  obtain ⟨hlt,hv⟩:=List.getElem?_eq_some_iff.1 hu
  refine ⟨u,?_,hru⟩
  have:=hc off hlt
  simp [loadVar,zBP hk w,this,hv]
 ·cases h

theorem zBT {t off:Nat} {cs:List AV} {v:AV} (h:zAE P t cs off=some v) {vs:Array Value} (hr:RVL g cs vs.toList) (w:World) :
  ∃ u,(part t vs off).run P w = .ok u w/\RV g v u:=by
 unfold zAE at h
 split at h
 ·rename_i n hk
  obtain ⟨h1,h2⟩:=zBO hk w
  split at h
  ·rename_i hle
   cases h
   refine ⟨.agg (vs.extract off (off+n)),by simp [part,h1,h2],.agg' ?_⟩
   have:=(hr.drop off).take n
   rw [Array.toList_extract]
   rw [List.extract_eq_take_drop]
   simpa using this
  ·cases h
 ·rename_i hk
  obtain ⟨u,hu,hru⟩:=hr.get h
  refine ⟨u,?_,hru⟩
  have hu':vs[off]? = some u:=by simpa using hu
  simp [part,zBP hk w,hu']
 ·cases h

theorem Sim.cells (h:Sim B w0 g σ w) {id e sz:Nat} {cs:List AV} {grow:Bool} (ho:σ.objs id = .cells cs e sz grow) :
  ∃ i c,g.info id=some i/\i.sz=sz/\B<=i.blk/\w.heap[i.blk]? = some (.cells c e (0,0))/\cs.length<=c.size/\(grow=false->cs.length=c.size)/\c.size=i.tot*i.sz/\i.tot<=maxLen /\
   RVL g cs (c.toList.take cs.length)/\cs.all AV.one=true/\∀ o,g.F i.blk o=none:=by
 have:=h.objs id
 rw [ho] at this
 exact this

theorem zBU {c:Array Value} {e b n:Nat} (hh:w.heap[b]? = some (.cells c e (0,0))) (j:Nat) (hj:j<(c.toList.take n).length):w.cell? ⟨b,0+j,none⟩=some (c.toList.take n)[j]:=by
 have h1:j<c.size:=by have:=hj; simp at this; omega
 simp [World.cell?,hh,h1]

theorem zBV (h:Sim B w0 g σ w) {t:Nat} {x v:AV} {u:Value} (hx:RV g x u) (ha:zAM P σ t x=some v) :
  ∃ u',(Instr.loadAt t u).run P w = .ok u' w/\RV g v u':=by
 unfold zAM at ha
 split at ha
 ·rename_i cs
  cases hx with
  | vptr _ b o vs hl hF hr =>
   obtain ⟨u',h1,h2⟩:=zBS ha (b:=b) (o:=o) ⟨hl,hr⟩ (fun j hj=>h.froz _ _ _ (hF j hj))
   refine ⟨u',?_,h2⟩
   simpa [Instr.loadAt,Instr.sureAddr] using h1
 ·rename_i id off
  split at ha
  ·rename_i cs e sz gr ho
   obtain ⟨i,c,h1,_,_,hh,_,_,_,_,hr,_,_⟩:=h.cells ho
   cases hx with
   | ptr _ _ i' hi' =>
    rw [h1] at hi'; cases hi'
    obtain ⟨u',h3,h4⟩:=zBS ha hr (b:=i.blk) (o:=0) (fun j hj=>zBU hh j hj)
    refine ⟨u',?_,h4⟩
    rw [Nat.zero_add] at h3
    simpa [Instr.loadAt,Instr.sureAddr] using h3
  ·cases ha
 ·cases ha

theorem RVL.splice {cs vs:List AV} {us ws:List Value} (h:RVL g cs us) (k:RVL g vs ws) (off:Nat):RVL g (zAF cs off vs) (us.take off++ws++us.drop (off+ws.length)):=by
 unfold zAF
 rw [k.1]
 exact ((h.take off).append k).append (h.drop _)

theorem zBW {α:Type} (l vs:List α) (off n:Nat) (h1:off+vs.length<=n) (h2:n<=l.length) :
  (l.take off++vs++l.drop (off+vs.length)).take n=(l.take n).take off++vs++(l.take n).drop (off+vs.length):=by
 have e1:(l.take n).take off=l.take off:=by rw [List.take_take,Nat.min_eq_left (by omega)]
 rw [e1,List.drop_take]
 have hl:(l.take off++vs).length=off+vs.length:=by rw [List.length_append,List.length_take,Nat.min_eq_left (by omega)]
 rw [List.take_append]
 rw [List.take_of_length_le (by omega),hl]

theorem store_ok (h:Sim B w0 g σ w) {t:Nat} {x v r:AV} {σ':zA6} {u y:Value} (hx:RV g x u) (hy:RV g v y) (ha:zAN P σ t x v = .ok r σ') :
  ∃ w',(Instr.storeAt t u y).run P w = .ok () w'/\Sim B w0 g σ' w'/\r = .undef:=by
 unfold zAN at ha
 split at ha
 ·rename_i id off
  split at ha
  ·rename_i cs e sz gr ho
   split at ha
   ·rename_i hcond
    obtain ⟨hv,hsz,hone,hle⟩:=hcond
    cases ha
    have hne:v ≠ .undef:=by rintro rfl; simp [AV.isUndef] at hv
    have hcv:=hy.cells hne
    obtain ⟨i,c,h1,hs,hB,hh,hlc,hg,hct,hmx,hr,h1c,hF⟩:=h.cells ho
    cases hx with
    | ptr _ _ i' hi' =>
     rw [h1] at hi'; cases hi'
     have hlen:y.cells.toList.length=v.cells.length:=hcv.1.symm
     have hst:=run_storeCells_at P i.blk off e y.cells.toList 0 c w hh (by omega) (hcv.one hone)
     simp only [Nat.add_zero] at hst
     have hszr:(sizeOf t).run P w = .ok y.cells.size w:=by
      have:=zBQ hsz w
      rw [this]; congr 1; simpa using hlen.symm
     refine ⟨w.setRow i.blk (c.toList.take off++y.cells.toList++c.toList.drop (off+y.cells.toList.length)).toArray,?_,?_,rfl⟩
     ·simp only [Instr.storeAt,Instr.sureAddr,storeVar,Sem.run_bind,Sem.run_pure,Result.andThen_ok,hszr,ne_eq,not_true_eq_false,if_false]
      exact hst
     have hd:σ.objs id ≠ .dead:=by rw [ho]; simp
     have hsize:(c.toList.take off++y.cells.toList++c.toList.drop (off+y.cells.toList.length)).length=c.size:=by
      simp only [List.length_append,List.length_take,List.length_drop,Array.length_toList]
      have:y.cells.size=v.cells.length:=by simpa using hlen
      omega
     have hal:(zAF cs off v.cells).length=cs.length:=by
      simp only [zAF,List.length_append,List.length_take,List.length_drop]; omega
     have htk:((c.toList.take off++y.cells.toList++c.toList.drop (off+y.cells.toList.length)).toArray.toList.take (zAF cs off v.cells).length) =
       (c.toList.take cs.length).take off++y.cells.toList++(c.toList.take cs.length).drop (off+y.cells.toList.length):=by
      rw [hal]
      exact zBW _ _ _ _ (by rw [hlen]; exact hle) (by simpa using hlc)
     refine h.write (w':=w.setRow i.blk (c.toList.take off++y.cells.toList++c.toList.drop (off+y.cells.toList.length)).toArray) h1 hd hF rfl rfl rfl (by simp [World.setRow]) (fun b hb=>setRow_other w _ _ _ hb) _ ?_
     refine ⟨i,_,h1,hs,hB,setRow_heap w _ _ _ _ _ hh,?_,?_,?_,hmx,?_,?_,hF⟩
     ·rw [hal]; simp only [List.size_toArray]; rw [hsize]; exact hlc
     ·intro hgf; rw [hal,hg hgf]; simp only [List.size_toArray]; rw [hsize]
     ·simp only [List.size_toArray]; rw [hsize]; exact hct
     ·rw [htk]; exact hr.splice hcv off
     ·unfold zAF
      rw [List.all_append,List.all_append,hone]
      rw [List.all_eq_true] at h1c
      simp only [Bool.and_true,Bool.and_eq_true,List.all_eq_true]
      exact ⟨fun z hz=>h1c z (List.mem_of_mem_take hz),fun z hz=>h1c z (List.mem_of_mem_drop hz)⟩
   ·cases ha
  ·cases ha
 ·cases ha

theorem new_ok (h:Sim B w0 g σ w) {e:Nat} {cs:List AV} {c:Array Value} (hr:RVL g cs c.toList) {r:AV} {σ':zA6} (ha:zAO σ e cs = .ok r σ') :
  g.Le (g.add σ.next ⟨w.heap.size,1,cs.length⟩)/\Sim B w0 (g.add σ.next ⟨w.heap.size,1,cs.length⟩) σ' (w.alloc (.cells c e))/\RV (g.add σ.next ⟨w.heap.size,1,cs.length⟩) r (.pointer (some ⟨w.heap.size,0,none⟩)):=by
 unfold zAO at ha
 split at ha
 ·rename_i hc
  cases ha
  have hsz:c.size=cs.length:=by have:=hr.1; simpa using this.symm
  have hle:g.Le (g.add σ.next ⟨w.heap.size,1,cs.length⟩):=zA2.le_add (h.next _ (Nat.le_refl _)).1 _
  have htk:c.toList.take cs.length=c.toList:=List.take_of_length_le (by simp [hsz])
  have hn:=h.new (.cells cs e cs.length false) (.cells c e) 1 cs.length ⟨⟨w.heap.size,1,cs.length⟩,c,by simp,rfl,h.size,zA8 w _,by omega,fun _=>hsz.symm,by simp [hsz],(by decide:(1:Nat)<=2 ^ 63 - 1),by rw [htk]; exact hr.mono hle,hc.1,fun o=>by rw [zA2.add_F]; exact h.F_new o⟩
  exact ⟨hn.1,hn.2,.ptr _ _ ⟨w.heap.size,1,cs.length⟩ (by simp)⟩
 ·cases ha

end
end Go.V
namespace Go.V
open Go.RowKit

theorem zBX (a b:ByteArray):(a.toList==b.toList)=zAI a b:=by unfold zAI; rw [ByteArray.toList_eq,ByteArray.toList_eq]
theorem zBY (a b:ByteArray):Op.bytesLess a.toList b.toList=bslt a b:=by unfold bslt; rw [ByteArray.toList_eq,ByteArray.toList_eq]

section
variable {P:Program} {B:Nat} {w0:World} {g:zA2} {σ:zA6} {w:World}
theorem int_ok {op:BinOp} {t:Nat} {k k':IntKind} {a b:Int} {r:AV} {cst:Bool} (h:zAL P op t cst (.int k a) (.int k' b)=some r) :
  ∃ z,(binOp op t (.int k a) (.int k' b)).run P w = .ok z w/\RV g r z:=by
 simp only [zAL] at h
 split at h
 ·rename_i hs
  unfold ashift at h
  split at h
  ·cases h
  ·rename_i hb
   rcases hs with rfl | rfl
   ·cases h
    exact ⟨_,(by simp [binOp,Op.shift,hb]),.int _ _⟩
   ·cases h
    exact ⟨_,(by simp [binOp,Op.shift,hb]),.int _ _⟩
 ·rename_i hs
  split at h
  ·rename_i hk
   subst hk
   unfold aint at h
   cases op <;> simp only [reduceCtorEq] at h hs <;> first
    | (simp at hs; done)
    | (cases h; refine ⟨_,?_,.int _ _⟩; rfl)
    | (cases h; refine ⟨_,?_,.bool _⟩; rfl)
    | (cases h; refine ⟨_,?_,.int _ _⟩; simp [binOp,Op.intArith,Op.intCmp,Op.intBits]; done)
    | (cases h; refine ⟨_,?_,.bool _⟩; simp [binOp,Op.intArith,Op.intCmp,Op.intBits]; done)
    | (split at h
       ·cases h
       ·rename_i hb
        cases h
        refine ⟨_,?_,.int _ _⟩
        simp [binOp,Op.intDiv,hb])
  ·cases h

theorem str_ok {op:BinOp} {t:Nat} {a b:ByteArray} {r:AV} (h:zAJ op a b=some r) :
  ∃ z,(binOp op t (.string a) (.string b)).run P w = .ok z w/\RV g r z:=by
 unfold zAJ at h
 cases op <;> simp only [reduceCtorEq] at h <;> first
  | (cases h; refine ⟨_,?_,.bool _⟩; simp [binOp,Op.stringOp,zBX,zBY]; done)
  | (split at h
     ·rename_i hb
      cases h
      have hlt:¬ (IntKind.i64.max<(a.size:Int)+(b.size:Int)):=by
       have:IntKind.i64.max=9223372036854775807:=by decide
       rw [this]; omega
      refine ⟨_,?_,.str _⟩
      simp [binOp,Op.stringOp,hlt]
      omega
     ·cases h)

theorem eq1_ok {d t:Nat} {x y:AV} {u v:Value} {r:Bool} (hx:RV g x u) (hy:RV g y v) (h:aeq1 P t x y=some r) :
  (Op.equalIn (d+1) t u v).run P w = .ok r w:=by
 unfold aeq1 at h
 split at h
 ·rename_i hu
  split at h
  ·rename_i hk
   subst hk
   cases h
   cases hx; cases hy
   exact run_equalIn_int w d t _ _ _ _ hu
  ·cases h
 ·rename_i hu
  cases h
  cases hx; cases hy
  rw [<-zBX]
  exact run_equalIn_string w d t _ _ hu
 ·rename_i hu
  cases h
  cases hx; cases hy
  exact run_equalIn_bool' w d t _ _ hu
 ·cases h

theorem eqF_ok {d:Nat} {xs ys:List AV} {us vs:Array Value} (hx:RVL g xs us.toList) (hy:RVL g ys vs.toList):∀ (fs:List Field) (r:Bool),aeqF P xs ys fs=some r ->
  (Op.eqFields (d+1) us vs fs).run P w = .ok r w:=by
 intro fs
 induction fs with
 | nil=>intro r h; simp only [aeqF] at h; cases h; simp [Op.eqFields]
 | cons f fs ih =>
  intro r h
  simp only [aeqF] at h
  split at h
  ·rename_i hn
   split at h
   ·rename_i a b ha hb
    split at h
    ·rename_i p q hp hq
     cases h
     obtain ⟨u,hu,hur⟩:=zBT ha hx w
     obtain ⟨v,hv,hvr⟩:=zBT hb hy w
     have he:=eq1_ok (w:=w) (d:=d) hur hvr hp
     have hi:=ih q hq
     rw [Op.eqFields,if_pos hn]
     simp only [Sem.run_bind,hu,hv,he,Result.andThen_ok]
     cases p
     ·simp
     ·simpa using hi
    ·cases h
   ·cases h
  ·rename_i hn
   rw [Op.eqFields,if_neg hn]
   exact ih r h

theorem eq_ok {d t:Nat} {x y:AV} {u v:Value} {r:Bool} (hx:RV g x u) (hy:RV g y v) (h:aeq P t x y=some r) :
  (Op.equalIn (d+2) t u v).run P w = .ok r w:=by
 unfold aeq at h
 split at h
 ·split at h
  ·rename_i hc
   obtain ⟨hok,hk,ha,_⟩:=hc
   obtain ⟨us,rfl,hus⟩:=hx.agg_inv
   obtain ⟨vs,rfl,hvs⟩:=hy.agg_inv
   have hs:P.stoodInHeld t=false:=by simp [eqOk] at hok; exact hok.2
   have hu:P.underlying t=some (.struct (P.fieldsOf t)):=by
    unfold zAC at hk
    split at hk
    ·rename_i fs hu; simp [Program.fieldsOf,hu]
    ·rename_i n e hu; simp [arrT,hu] at ha
    ·cases hk
    ·cases hk
   rw [run_equalIn_struct w (d+1) t us vs hu hs]
   exact eqF_ok hus hvs _ _ h
  ·cases h
 ·exact eq1_ok hx hy h

theorem nilIn_ok {d t:Nat} {x y:AV} {u v:Value} {r:Bool} (hx:RV g x u) (hy:RV g y v) (h:anil P t x y=some r) :
  (Op.equalIn (d+1) t u v).run P w = .ok r w:=by
 unfold anil at h
 split at h <;> first
  | (rename_i hu; cases h; cases hx; cases hy; simp only [Op.equalIn,Sem.run_bind,run_underlying hu,Result.andThen_ok,Sem.run_pure]; done)
  | (rename_i hu; cases h; cases hx; cases hy; simp only [Op.equalIn,Sem.run_bind,run_underlying hu,Result.andThen_ok,Sem.run_pure]; rfl)
  | (rename_i hu; split at h <;> first | (cases h; done) | skip; rename_i hn; cases h; cases hx <;> cases hy <;> first | (simp [nnil] at hn; done) | (simp only [Op.equalIn,Sem.run_bind,run_underlying hu,Result.andThen_ok,Sem.run_pure]; done) | (simp only [Op.equalIn,Sem.run_bind,run_underlying hu,Result.andThen_ok,Sem.run_pure]; rfl))
  | (cases h; done)

theorem zBZ {t:Nat} {x y:AV} {u v:Value} {r:Bool} (hx:RV g x u) (hy:RV g y v) (h:anil P t x y=some r) (op:BinOp) (ox oy:Operand) :
  (eqGuard op t ox oy u v).run P w = .ok () w:=by
 unfold anil at h
 split at h <;> first
  | (rename_i hu; cases h; cases hx; cases hy; cases op <;> rfl)
  | (rename_i hu; split at h <;> first | (cases h; done) | skip; rename_i hn; cases h; cases hx <;> cases hy <;> first | (simp [nnil] at hn; done) | (cases op <;> rfl))
  | (cases h; done)

theorem nilB_ok {t:Nat} {x y:AV} {u v:Value} {r:Bool} (hx:RV g x u) (hy:RV g y v) (h:anil P t x y=some r) :
  binOp .eql t u v=(do pure (.bool (<-Op.equal t u v)))/\binOp .neq t u v=(do pure (.bool (!(<-Op.equal t u v)))):=by
 unfold anil at h
 split at h <;> first
  | (rename_i hu; cases h; cases hx; cases hy; exact ⟨rfl,rfl⟩)
  | (rename_i hu; split at h <;> first | (cases h; done) | skip; rename_i hn; cases h; cases hx <;> cases hy <;> first | (simp [nnil] at hn; done) | exact ⟨rfl,rfl⟩)
  | (cases h; done)

theorem nil_ok {t:Nat} {x y:AV} {u v:Value} {r:Bool} (hx:RV g x u) (hy:RV g y v) (h:anil P t x y=some r) :
  (binOp .eql t u v).run P w = .ok (.bool r) w/\(binOp .neq t u v).run P w = .ok (.bool (!r)) w:=by
 obtain ⟨h1,h2⟩:=nilB_ok (P:=P) hx hy h
 have he:(Op.equal t u v).run P w = .ok r w:=nilIn_ok (d:=9999) hx hy h
 rw [h1,h2]
 exact ⟨by simp only [Sem.run_bind,he,Result.andThen_ok,Sem.run_pure],by simp only [Sem.run_bind,he,Result.andThen_ok,Sem.run_pure]⟩

theorem eqB_ok {t:Nat} {x y:AV} {u v:Value} {r:Bool} (hx:RV g x u) (hy:RV g y v) (h:aeq P t x y=some r) (hni:∀ k a k' b,¬ (x = .int k a/\y = .int k' b)) (hns:∀ a b,¬ (x = .str a/\y = .str b)) :
  (∀ op ox oy,(eqGuard op t ox oy u v).run P w = .ok () w)/\(binOp .eql t u v).run P w = .ok (.bool r) w/\(binOp .neq t u v).run P w = .ok (.bool (!r)) w:=by
 have he:(Op.equalIn 10000 t u v).run P w = .ok r w:=eq_ok (d:=9998) hx hy h
 unfold aeq at h
 split at h
 ·split at h
  ·rename_i hc
   obtain ⟨us,rfl,hus⟩:=hx.agg_inv
   obtain ⟨vs,rfl,hvs⟩:=hy.agg_inv
   have hm:P.eqGuardType P.depth t=false:=by have:=hc.1; simp [eqOk] at this; exact this.1
   refine ⟨fun op ox oy=>run_eqGuard_agg w op t ox oy us vs hm,?_,?_⟩
   ·rw [run_eql_struct,he]; rfl
   ·rw [run_neq_struct,he]; rfl
  ·cases h
 ·unfold aeq1 at h
  split at h
  ·exact absurd ⟨rfl,rfl⟩ (hni _ _ _ _)
  ·exact absurd ⟨rfl,rfl⟩ (hns _ _)
  ·rename_i hu
   cases h
   cases hx; cases hy
   have he':(Op.equal t (.bool _) (.bool _)).run P w = .ok _ w:=he
   refine ⟨fun op ox oy=>by cases op <;> rfl,?_,?_⟩
   ·show (do pure (Value.bool (<-Op.equal t _ _)):Sem Value).run P w=_
    simp only [Sem.run_bind,he',Result.andThen_ok,Sem.run_pure]
   ·show (do pure (Value.bool (!(<-Op.equal t _ _))):Sem Value).run P w=_
    simp only [Sem.run_bind,he',Result.andThen_ok,Sem.run_pure]
  ·cases h

theorem zC0 {t:Nat} {ms:Array (String×TypeId)} (d:Nat) (hu:P.underlying t=some (.interface ms)):(Op.equalIn (d+1) t .nilIface .nilIface).run P w = .ok true w:=by
 simp only [Op.equalIn,Sem.run_bind,run_underlying hu,Result.andThen_ok,Sem.run_pure]
theorem zC1 (op:BinOp) (t:Nat) (ox oy:Operand) (k k':IntKind) (a b:Int):(eqGuard op t ox oy (.int k a) (.int k' b)).run P w = .ok () w:=by cases op <;> rfl
theorem zC2 (op:BinOp) (t:Nat) (ox oy:Operand) (a b:ByteArray):(eqGuard op t ox oy (.string a) (.string b)).run P w = .ok () w:=by cases op <;> rfl

theorem bin_ok {op:BinOp} {t:Nat} {ox oy:Operand} {x y r:AV} {u v:Value} (hx:RV g x u) (hy:RV g y v) (h:zAL P op t (zAK ox || zAK oy) x y=some r) :
  ∃ z,(do eqGuard op t ox oy u v; binOp op t u v:Sem Value).run P w = .ok z w/\RV g r z:=by
 unfold zAL at h
 split at h
 ·cases hx; cases hy
  obtain ⟨z,h1,h2⟩:=int_ok (P:=P) (w:=w) (g:=g) (op:=op) (t:=t) (cst:=false) (by simpa only [zAL] using h)
  exact ⟨z,by simp only [Sem.run_bind,zC1,Result.andThen_ok]; exact h1,h2⟩
 ·cases hx; cases hy
  obtain ⟨z,h1,h2⟩:=str_ok (P:=P) (w:=w) (g:=g) (t:=t) h
  exact ⟨z,by simp only [Sem.run_bind,zC2,Result.andThen_ok]; exact h1,h2⟩
 ·cases hx; cases hy
  split at h
  ·rename_i hc
   have hg:(eqGuard op t ox oy .nilIface .nilIface).run P w = .ok () w:=by
    have h1:((ox matches .const _) || (oy matches .const _))=true:=by
     revert hc; unfold zAK; cases ox <;> cases oy <;> simp
    cases op <;> first | rfl | (simp only [eqGuard]; cases ox <;> cases oy <;> first | rfl | (simp at h1; done))
   split at h
   ·rename_i hu
    cases h
    refine ⟨_,?_,.bool _⟩
    have he':(Op.equal t .nilIface .nilIface).run P w = .ok true w:=zC0 9999 hu
    simp only [Sem.run_bind,hg,Result.andThen_ok]
    show (do pure (Value.bool (<-Op.equal t _ _)):Sem Value).run P w=_
    simp only [Sem.run_bind,he',Result.andThen_ok,Sem.run_pure]
   ·rename_i hu
    cases h
    refine ⟨_,?_,.bool _⟩
    have he':(Op.equal t .nilIface .nilIface).run P w = .ok true w:=zC0 9999 hu
    simp only [Sem.run_bind,hg,Result.andThen_ok]
    show (do pure (Value.bool (!(<-Op.equal t _ _))):Sem Value).run P w=_
    simp only [Sem.run_bind,he',Result.andThen_ok,Sem.run_pure]; rfl
   ·cases h
  ·cases h
 ·rename_i hni hns hnn
  split at h
  ·split at h
   ·rename_i q hq
    cases h
    exact ⟨_,by simp only [Sem.run_bind,zBZ hx hy hq,Result.andThen_ok]; exact (nil_ok hx hy hq).1,.bool _⟩
   ·cases he:aeq P t x y with
    | none=>rw [he] at h; cases h
    | some q =>
     rw [he] at h; cases h
     obtain ⟨h1,h2,h3⟩:=eqB_ok (w:=w) hx hy he (fun k a k' b e=>hni k a k' b e.1 e.2) (fun a b e=>hns a b e.1 e.2)
     exact ⟨_,by simp only [Sem.run_bind,h1,Result.andThen_ok]; exact h2,.bool _⟩
  ·split at h
   ·rename_i q hq
    cases h
    exact ⟨_,by simp only [Sem.run_bind,zBZ hx hy hq,Result.andThen_ok]; exact (nil_ok hx hy hq).2,.bool _⟩
   ·cases he:aeq P t x y with
    | none=>rw [he] at h; cases h
    | some q =>
     rw [he] at h; cases h
     obtain ⟨h1,h2,h3⟩:=eqB_ok (w:=w) hx hy he (fun k a k' b e=>hni k a k' b e.1 e.2) (fun a b e=>hns a b e.1 e.2)
     exact ⟨_,by simp only [Sem.run_bind,h1,Result.andThen_ok]; exact h3,.bool _⟩
  ·cases h

theorem un_ok {op:UnOp} {x r:AV} {u:Value} (hx:RV g x u) (h:aun op x=some r):∃ z,(Op.unary op u).run P w = .ok z w/\RV g r z:=by
 unfold aun at h
 split at h
 ·cases h; cases hx; exact ⟨_,rfl,.bool _⟩
 ·cases h; cases hx; exact ⟨_,rfl,.int _ _⟩
 ·cases h

theorem conv_ok {s d:Nat} {x r:AV} {u:Value} (hx:RV g x u) (h:aconv P s d x=some r):∃ z,(convert s d u).run P w = .ok z w/\RV g r z:=by
 unfold aconv at h
 split at h
 ·rename_i hs hd
  cases h; cases hx
  refine ⟨_,?_,.int _ _⟩
  simp only [convert,Sem.run_bind,run_underlying hs,run_underlying hd,Result.andThen_ok]
  rfl
 ·rename_i hs hd
  cases h; cases hx
  refine ⟨_,?_,.str _⟩
  simp only [convert,Sem.run_bind,run_underlying hs,run_underlying hd,Result.andThen_ok]
  rfl
 ·cases h

end
end Go.V
namespace Go.V
open Go.RowKit

theorem zC3 (x:AV) (xs:List AV):zA0 (x :: xs)=x.cells++zA0 xs:=rfl
theorem zC4 (xs ys:List AV):zA0 (xs++ys)=zA0 xs++zA0 ys:=by simp [zA0]
theorem zC5 {sz:Nat}:∀ {xs:List AV},(∀ x∈xs,x.cells.length=sz)->(zA0 xs).length=xs.length*sz
 | [],_=>by simp [zA0]
 | x :: xs,h=>by
  rw [zC3,List.length_append,h x (by simp),zC5 (fun y hy=>h y (by simp [hy])),List.length_cons,Nat.succ_mul]
  omega
theorem zC6 {sz:Nat}:∀ {xs:List AV} (l:Nat),(∀ x∈xs,x.cells.length=sz)->zA0 (xs.drop l)=(zA0 xs).drop (l*sz)
 | xs,0,_=>by simp
 | [],l+1,_=>by simp [zA0]
 | x :: xs,l+1,h=>by
  rw [List.drop_succ_cons,zC6 l (fun y hy=>h y (by simp [hy])),zC3,Nat.succ_mul,List.drop_append]
  have hx:=h x (by simp)
  rw [List.drop_of_length_le (l:=x.cells) (by omega),List.nil_append]
  congr 1
  omega
theorem zC7 {sz:Nat}:∀ {xs:List AV} (l:Nat),(∀ x∈xs,x.cells.length=sz)->zA0 (xs.take l)=(zA0 xs).take (l*sz)
 | xs,0,_=>by simp [zA0]
 | [],l+1,_=>by simp [zA0]
 | x :: xs,l+1,h=>by
  rw [List.take_succ_cons,zC3,zC7 l (fun y hy=>h y (by simp [hy])),zC3,Nat.succ_mul,List.take_append]
  have hx:=h x (by simp)
  rw [List.take_of_length_le (l:=x.cells) (by omega)]
  congr 2
  omega
theorem flat_get {sz:Nat} {xs:List AV} (h:∀ x∈xs,x.cells.length=sz) {i:Nat} {x:AV} (hx:xs[i]? = some x):x.cells=((zA0 xs).drop (i*sz)).take sz:=by
 obtain ⟨hi,rfl⟩:=List.getElem?_eq_some_iff.1 hx
 rw [<-zC6 i h,List.drop_eq_getElem_cons hi,zC3,List.take_append]
 have:=h xs[i] (List.getElem_mem hi)
 rw [List.take_of_length_le (l:=xs[i].cells) (by omega),this]
 simp

theorem zC8 (a:Addr) (n:Nat):(a.add n).block=a.block/\(a.add n).off=a.off+n/\(a.spot=none->(a.add n).spot=none):=by
 unfold Addr.add
 split
 ·rename_i h; subst h; exact ⟨rfl,rfl,fun h=>h⟩
 ·exact ⟨rfl,rfl,fun _=>rfl⟩
theorem zC9 {a:Addr} (h:a.spot=none):a=⟨a.block,a.off,none⟩:=by cases a; simp_all

structure zCA (g:zA2) (sz:Nat) (xs:List AV) (m:Cap) (a:Addr) (cap:Nat) (vs:List Value):Prop where
 hsz:∀ x∈xs,x.cells.length=sz
 hr:RVL g (zA0 xs) vs
 hsp:0<vs.length->a.spot=none
 hF:∀ i (h:i<vs.length),g.F a.block (a.off+i)=some vs[i]
 h1:(zA0 xs).all AV.one=true
 hcap:xs.length<=cap
 hm:zA3 g m a xs.length cap sz

theorem RV.slice_inv {g:zA2} {sz:Nat} {xs:List AV} {m:Cap} {u:Value} (h:RV g (.slice sz xs m) u) :
  (∃ a cap vs,u = .slice (some a) xs.length cap/\zCA g sz xs m a cap vs)\/(xs=[]/\m = .any/\u = .slice none 0 0):=by
 cases h with
 | slice _ _ _ a cap vs hsz hl hsp hF h1 hr hcap hm=>exact .inl ⟨a,cap,vs,rfl,hsz,⟨hl,hr⟩,hsp,hF,h1,hcap,hm⟩
 | nilany _=>exact .inr ⟨rfl,rfl,rfl⟩
theorem RV.slice_inv1 {g:zA2} {sz:Nat} {xs:List AV} {m:Cap} {u:Value} (h:RV g (.slice sz xs m) u) (hm:m ≠ .any\/xs≠[]) :
  ∃ a cap vs,u = .slice (some a) xs.length cap/\zCA g sz xs m a cap vs:=by
 rcases h.slice_inv with h | ⟨h1,h2,_⟩
 ·exact h
 ·rcases hm with h | h
  ·exact absurd h2 h
  ·exact absurd h1 h
theorem zCA.rv {g:zA2} {sz:Nat} {xs:List AV} {m:Cap} {a:Addr} {cap:Nat} {vs:List Value} (h:zCA g sz xs m a cap vs):RV g (.slice sz xs m) (.slice (some a) xs.length cap) :=
 .slice sz xs m a cap vs h.hsz h.hr.1 h.hsp h.hF h.h1 h.hr.2 h.hcap h.hm

section
variable {P:Program} {B:Nat} {w0:World} {g:zA2} {σ:zA6} {w:World}
theorem zCB {x:AV} {u:Value} (hx:RV g x u) {y Y n:Nat} (h:zAP x y=some n) (hY:y<=Y) (code:BoundsCode) (w:World):(Instr.sliceBound u Y code).run P w = .ok n w/\n<=y:=by
 unfold zAP at h
 split at h
 ·split at h
  ·rename_i k i hc
   cases h; cases hx
   have h1:0<=i/\i<=(Y:Int):=by omega
   refine ⟨by simp [Instr.sliceBound,asIntOf,h1],by omega⟩
  ·cases h
 ·cases h

inductive RVO (g:zA2):Option AV->Option Value->Prop where
 | none:RVO g none none
 | some (x:AV) (u:Value) (h:RV g x u):RVO g (some x) (some u)

theorem zCC {lo hi:Option AV} {lo' hi':Option Value} (hl:RVO g lo lo') (hh:RVO g hi hi') {len cap top l h:Nat} (ha:zAQ len lo hi top=some (l,h)) (ht:top<=cap) (hlen:len<=top) (s:Bool) (w:World) :
  (Instr.sliceBounds s len cap lo' hi' none).run P w = .ok (l,h,cap) w/\l<=h/\h<=top:=by
 unfold zAQ at ha
 split at ha
 ·rename_i h0 hh0
  split at ha
  ·rename_i l0 hl0
   cases ha
   have key:∀ (hl1:h<=top) (hl2:l<=h),(Instr.sliceBounds s len cap lo' hi' none).run P w = .ok (l,h,cap) w->(Instr.sliceBounds s len cap lo' hi' none).run P w = .ok (l,h,cap) w/\l<=h/\h<=top:=fun a b c=>⟨c,b,a⟩
   cases hh with
   | none =>
    simp at hh0; subst hh0
    cases hl with
    | none=>simp at hl0; subst hl0; exact key hlen (Nat.zero_le _) rfl
    | some x u hr =>
     have e:=zCB (P:=P) hr hl0 (Nat.le_refl _) .sliceB w
     refine key hlen e.2 ?_
     simp only [Instr.sliceBounds,Sem.run_bind,Sem.run_pure,Result.andThen_ok,Option.isSome_none,Bool.false_eq_true,if_false,e.1]
   | some y v hr' =>
    have e':=zCB (P:=P) hr' hh0 ht (if s then .sliceAcap else .sliceAlen) w
    cases hl with
    | none =>
     simp at hl0; subst hl0
     refine key e'.2 (Nat.zero_le _) ?_
     simp only [Instr.sliceBounds,Sem.run_bind,Sem.run_pure,Result.andThen_ok,e'.1]
    | some x u hr =>
     have e:=zCB (P:=P) hr hl0 (Nat.le_refl _) .sliceB w
     refine key e'.2 e.2 ?_
     simp only [Instr.sliceBounds,Sem.run_bind,Sem.run_pure,Result.andThen_ok,e'.1,Option.isSome_none,Bool.false_eq_true,if_false,e.1]
  ·cases ha
 ·cases ha

theorem zCD {lo hi:Option AV} {lo' hi':Option Value} {mx:AV} {mx':Value} (hl:RVO g lo lo') (hh:RVO g hi hi') (hm:RV g mx mx') {len cap top c l h:Nat} (hc:zAP mx top=some c) (hhs:hi.isSome=true)
  (ha:zAQ len lo hi c=some (l,h)) (ht:top<=cap) (w:World) :
  (Instr.sliceBounds true len cap lo' hi' (some mx')).run P w = .ok (l,h,c) w/\l<=h/\h<=c/\c<=top:=by
 have h0:=zCB (P:=P) hm hc ht .slice3Acap w
 unfold zAQ at ha
 split at ha
 ·rename_i h1 hh0
  split at ha
  ·rename_i l0 hl0
   cases ha
   cases hh with
   | none=>simp at hhs
   | some y v hr' =>
    have e':=zCB (P:=P) hr' hh0 (Nat.le_refl _) .slice3B w
    cases hl with
    | none =>
     simp at hl0; subst hl0
     refine ⟨?_,Nat.zero_le _,e'.2,h0.2⟩
     simp only [Instr.sliceBounds,Sem.run_bind,Sem.run_pure,Result.andThen_ok,if_true,h0.1,e'.1]
    | some x u hr =>
     have e:=zCB (P:=P) hr hl0 (Nat.le_refl _) .slice3C w
     refine ⟨?_,e.2,e'.2,h0.2⟩
     simp only [Instr.sliceBounds,Sem.run_bind,Sem.run_pure,Result.andThen_ok,if_true,h0.1,e'.1,Option.isSome_some,e.1]
  ·cases ha
 ·cases ha

theorem zCA.sub {sz:Nat} {xs:List AV} {m:Cap} {a:Addr} {cap:Nat} {vs:List Value} (h:zCA g sz xs m a cap vs) {l hi c:Nat} (hl:l<=hi) (hhi:hi<=xs.length) (hc:hi<=c) (m':Cap)
  (hm:∀ a',zA3 g m' a' (hi - l) (c - l) sz) :
  zCA g sz ((xs.take hi).drop l) m' (if c=l then a else a.add (l*sz)) (c - l) ((vs.take (hi*sz)).drop (l*sz)):=by
 have hsz':∀ x∈xs.take hi,x.cells.length=sz:=fun x hx=>h.hsz x (List.mem_of_mem_take hx)
 have hfl:zA0 ((xs.take hi).drop l)=((zA0 xs).take (hi*sz)).drop (l*sz):=by rw [zC6 l hsz',zC7 hi h.hsz]
 have hvl:vs.length=xs.length*sz:=by rw [<-h.hr.1,zC5 h.hsz]
 have hmulh:hi*sz<=vs.length:=by rw [hvl]; exact Nat.mul_le_mul_right _ hhi
 have hlen:((xs.take hi).drop l).length=hi - l:=by simp; omega
 have hvlen:((vs.take (hi*sz)).drop (l*sz)).length=hi*sz - l*sz:=by simp; omega
 refine ⟨fun x hx=>hsz' x (List.mem_of_mem_drop hx),by rw [hfl]; exact (h.hr.take _).drop _,?_,?_,?_,by rw [hlen]; omega,by rw [hlen]; exact hm _⟩
 ·intro hp
  rw [hvlen] at hp
  have hs:=h.hsp (by omega)
  split
  ·exact hs
  ·exact (zC8 a (l*sz)).2.2 hs
 ·intro i hi'
  rw [hvlen] at hi'
  have hcl:¬ c=l:=by
   intro e
   have:hi=l:=by omega
   subst this
   omega
  rw [if_neg hcl]
  obtain ⟨h1,h2,_⟩:=zC8 a (l*sz)
  rw [h1,h2,Nat.add_assoc,h.hF (l*sz+i) (by omega)]
  congr 1
  simp
 ·rw [hfl,List.all_eq_true]
  have:=h.h1
  rw [List.all_eq_true] at this
  exact fun v hv=>this v (List.mem_of_mem_take (List.mem_of_mem_drop hv))

theorem slice_ok (hS:Sim B w0 g σ w) {t:Nat} {x r:AV} {lo hi mx:Option AV} {u:Value} {lo' hi' mx':Option Value} (hx:RV g x u) (hl:RVO g lo lo') (hh:RVO g hi hi') (hm:RVO g mx mx')
  (ha:zAR P σ t x lo hi mx=some r):∃ z,(Instr.sliceAt t u lo' hi' mx').run P w = .ok z w/\RV g r z:=by
 unfold zAR at ha
 split at ha
 ·-- string
  rename_i s hu
  split at ha
  ·rename_i l h hb
   cases ha
   cases hx
   cases hm
   obtain ⟨h1,_,_⟩:=zCC (P:=P) hl hh hb (Nat.le_refl _) (Nat.le_refl _) false w
   refine ⟨_,?_,.str _⟩
   simp only [Instr.sliceAt,Instr.slice,Sem.run_bind,run_underlying hu,Result.andThen_ok,h1,Option.isSome_none,Bool.false_eq_true,if_false]
   rfl
  ·cases ha
 ·-- nil
  rename_i e hu
  split at ha
  ·rename_i n p hz hb
   cases ha
   cases hx
   cases hm
   obtain ⟨l,h⟩:=p
   obtain ⟨h1,h2,h3⟩:=zCC (P:=P) hl hh hb (Nat.le_refl _) (Nat.le_refl _) true w
   have e1:h=0:=by omega
   have e2:l=0:=by omega
   subst e1; subst e2
   refine ⟨_,?_,.nilslice⟩
   simp only [Instr.sliceAt,Instr.slice,Sem.run_bind,run_underlying hu,Result.andThen_ok,h1,zBQ hz w]
   rfl
  ·cases ha
 ·-- nil,three indexes
  rename_i e v hu
  split at ha
  ·rename_i n c y hz hc
   split at ha
   ·rename_i p hb
    cases ha
    cases hx
    cases hm with
    | some _ v' hv =>
     obtain ⟨l,h⟩:=p
     have hc0:c=0:=by have:=(zCB (P:=P) hv hc (Nat.le_refl _) .index w).2; omega
     subst hc0
     obtain ⟨h1,h2,h3,h4⟩:=zCD (P:=P) hl hh hv hc rfl hb (Nat.le_refl _) w
     have e1:h=0:=by omega
     have e2:l=0:=by omega
     subst e1; subst e2
     refine ⟨_,?_,.nilslice⟩
     simp only [Instr.sliceAt,Instr.slice,Sem.run_bind,run_underlying hu,Result.andThen_ok,h1,zBQ hz w]
     rfl
   ·cases ha
  ·cases ha
 ·-- a slice value
  rename_i e sz xs m hu
  split at ha
  ·rename_i hz
   split at ha
   ·rename_i l h hb
    cases ha
    cases hm
    rcases hx.slice_inv with ⟨a,cap,vs,rfl,hv⟩ | ⟨rfl,rfl,rfl⟩
    case inr =>
     obtain ⟨h1,h2,h3⟩:=zCC (P:=P) hl hh hb (Nat.le_refl _) (Nat.le_refl _) true w
     have e1:h=0:=by simp at h3; omega
     have e2:l=0:=by omega
     subst e1; subst e2
     refine ⟨_,?_,.nilany sz⟩
     simp only [List.length_nil] at h1
     simp only [Instr.sliceAt,Instr.slice,Sem.run_bind,run_underlying hu,Result.andThen_ok,h1,zBQ hz w]
     rfl
    obtain ⟨h1,h2,h3⟩:=zCC (P:=P) hl hh hb hv.hcap (Nat.le_refl _) true w
    have hs:=hv.sub h2 h3 (by have:=hv.hcap; omega:h<=cap) (if m = .full/\h=xs.length then .full else if m = .any then .any else .nn) (fun a'=>by
     split
     ·rename_i hf
      obtain ⟨rfl,rfl⟩:=hf
      have:cap=xs.length:=hv.hm
      simp only [zA3]; rw [this]
     ·split <;> trivial)
    have hlen:((xs.take h).drop l).length=h - l:=by simp; omega
    have:=hs.rv
    rw [hlen] at this
    refine ⟨_,?_,this⟩
    simp only [Instr.sliceAt,Instr.slice,Sem.run_bind,run_underlying hu,Result.andThen_ok,h1,zBQ hz w,Option.map_some,Sem.run_pure]
    split <;> simp_all
   ·cases ha
  ·cases ha
 ·-- a slice value,three indexes
  rename_i e sz xs m v hu
  split at ha
  ·rename_i hzm
   obtain ⟨hz,hmn⟩:=hzm
   split at ha
   ·rename_i c y hc
    split at ha
    ·rename_i l h hb
     cases ha
     cases hm with
     | some _ v' hvv =>
      obtain ⟨a,cap,vs,rfl,hv⟩:=hx.slice_inv1 (.inl hmn)
      obtain ⟨h1,h2,h3,h4⟩:=zCD (P:=P) hl hh hvv hc rfl hb hv.hcap w
      have hs:=hv.sub h2 (by omega:h<=xs.length) h3 (if h=c then .full else .nn) (fun a'=>by
       split
       ·rename_i hf; subst hf; rfl
       ·trivial)
      have hlen:((xs.take h).drop l).length=h - l:=by simp; omega
      have:=hs.rv
      rw [hlen] at this
      refine ⟨_,?_,this⟩
      simp only [Instr.sliceAt,Instr.slice,Sem.run_bind,run_underlying hu,Result.andThen_ok,h1,zBQ hz w,Option.map_some,Sem.run_pure]
      split <;> simp_all
    ·cases ha
   ·cases ha
  ·cases ha
 ·-- an object's slice
  rename_i e id off len hu
  split at ha
  ·rename_i cs e' sz gr ho
   split at ha
   ·rename_i hz
    split at ha
    ·rename_i l h hb
     cases ha
     cases hm
     cases hx with
     | rslice _ _ _ i a cap hi hadr hc hlen =>
      obtain ⟨i',c,h1,hs,_⟩:=hS.cells ho
      rw [hi] at h1; cases h1
      obtain ⟨h1,h2,h3⟩:=zCC (P:=P) hl hh hb hlen (Nat.le_refl _) true w
      refine ⟨_,?_,.rslice id (off+l) (h - l) i (if cap=l then a else a.add (l*sz)) (cap - l) hi ?_ (by omega) (by omega)⟩
      ·simp only [Instr.sliceAt,Instr.slice,Sem.run_bind,run_underlying hu,Result.andThen_ok,h1,zBQ hz w,Option.map_some,Sem.run_pure]
       split <;> simp_all
      ·by_cases hcl:cap=l
       ·exact .inr (by omega)
       ·left
        rw [if_neg hcl]
        rcases hadr with rfl | h0
        ·rw [zBJ,hs,Nat.add_mul]
        ·omega
    ·cases ha
   ·cases ha
  ·cases ha
 ·-- an object's slice,three indexes
  rename_i e id off len v hu
  split at ha
  ·rename_i cs e' sz gr ho
   split at ha
   ·rename_i hz
    split at ha
    ·rename_i c y hc
     split at ha
     ·rename_i l h hb
      cases ha
      cases hm with
      | some _ v' hvv =>
       cases hx with
       | rslice _ _ _ i a cap hi hadr hcp hlen =>
        obtain ⟨i',c',h1,hs,_⟩:=hS.cells ho
        rw [hi] at h1; cases h1
        obtain ⟨h1,h2,h3,h4⟩:=zCD (P:=P) hl hh hvv hc rfl hb hlen w
        refine ⟨_,?_,.view id (off+l) (h - l) i (if c=l then a else a.add (l*sz)) (c - l) hi ?_ (by omega) (by omega)⟩
        ·simp only [Instr.sliceAt,Instr.slice,Sem.run_bind,run_underlying hu,Result.andThen_ok,h1,zBQ hz w,Option.map_some,Sem.run_pure]
         split <;> simp_all
        ·by_cases hcl:c=l
         ·exact .inr (by omega)
         ·left
          rw [if_neg hcl]
          rcases hadr with rfl | h0
          ·rw [zBJ,hs,Nat.add_mul]
          ·omega
     ·cases ha
    ·cases ha
   ·cases ha
  ·cases ha
 ·-- an array that is a value
  rename_i n e cs hu
  split at ha
  ·rename_i hz
   obtain ⟨hz,hcn,hone⟩:=hz
   split at ha
   ·rename_i l h hb
    cases ha
    cases hm
    cases hx with
    | vptr _ b o vs hlen hF hr =>
     have hc1:∀ x∈cs,x.cells=[x]:=fun x hx=>by
      have:=List.all_eq_true.1 hone x hx
      cases x <;> first | rfl | cases this
     have hfl:zA0 cs=cs:=by
      unfold zA0
      have:∀ l:List AV,(∀ x∈l,x.cells=[x])->l.flatMap AV.cells=l:=by
       intro l
       induction l with
       | nil=>intro _; rfl
       | cons y l ih=>intro h; rw [List.flatMap_cons,h y (by simp),ih fun x hx=>h x (by simp [hx])]; rfl
      exact this cs hc1
     have hv:zCA g 1 cs .nn ⟨b,o,none⟩ n vs:=⟨fun x hx=>by rw [hc1 x hx]; rfl,by rw [hfl]; exact ⟨hlen,hr⟩,fun _=>rfl,hF,by rw [hfl]; exact hone,by omega,trivial⟩
     obtain ⟨h1,h2,h3⟩:=zCC (P:=P) hl hh hb (Nat.le_refl n) (Nat.le_refl n) false w
     have hs:=hv.sub h2 (by omega:h<=cs.length) (by omega:h<=n) .nn (fun a'=>trivial)
     have hlen2:((cs.take h).drop l).length=h - l:=by simp; omega
     have:=hs.rv
     rw [hlen2] at this
     refine ⟨_,?_,this⟩
     simp only [Instr.sliceAt,Instr.sureAddr,Sem.run_bind,run_underlying hu,Result.andThen_ok,h1,zBQ hz w,Sem.run_pure]
   ·cases ha
  ·cases ha
 ·cases ha

theorem zCE {s f t off n:Nat} (h:fldT P s f=some (t,off,n)):∃ fs fd,P.underlying s=some (.struct fs)/\fs[f]? = some fd/\fd.type=t/\fd.offset=off/\szT P t=some n:=by
 unfold fldT at h
 split at h
 ·rename_i fs hu
  split at h
  ·rename_i fd hf
   cases hz:szT P fd.type with
   | none=>simp [hz] at h
   | some k=>simp [hz] at h; obtain ⟨rfl,rfl,rfl⟩:=h; exact ⟨fs,fd,hu,hf,rfl,rfl,hz⟩
  ·cases h
 ·cases h

theorem field_ok {s f:Nat} {x r:AV} {u:Value} (hx:RV g x u) (h:zAS P s f x=some r):∃ z,(Instr.field s u f).run P w = .ok z w/\RV g r z:=by
 unfold zAS at h
 split at h
 ·rename_i cs t off n hf
  obtain ⟨fs,fd,hu,hfd,rfl,rfl,hz⟩:=zCE hf
  obtain ⟨vs,rfl,hv⟩:=hx.agg_inv
  obtain ⟨z,h1,h2⟩:=zBT h hv w
  refine ⟨z,?_,h2⟩
  simp only [Instr.field,Sem.run_bind,run_underlying hu,Result.andThen_ok,hfd,asAgg,Sem.run_pure,h1]
 ·cases h

theorem zCF {s f:Nat} {x r:AV} {u:Value} (hx:RV g x u) (h:zAT P s f x=some r):∃ z,(Instr.fieldAt s u f).run P w = .ok z w/\RV g r z:=by
 unfold zAT at h
 split at h
 ·rename_i t off n hf
  obtain ⟨fs,fd,hu,hfd,rfl,rfl,hz⟩:=zCE hf
  split at h
  ·cases h
  ·rename_i hn
   have hp:∀ a:Addr,(fieldPlace a fd).run P w = .ok (a.add fd.offset) w:=fun a=>by
    simp only [fieldPlace,Sem.run_bind,zBQ hz w,Result.andThen_ok,hn,if_false,Sem.run_pure]
   split at h
   ·rename_i id o
    cases h
    cases hx with
    | ptr _ _ i hi =>
     refine ⟨_,?_,.ptr id (o+fd.offset) i hi⟩
     simp only [Instr.fieldAt,Sem.run_bind,run_underlying hu,Result.andThen_ok,hfd,Instr.sureAddr,Sem.run_pure,hp,zBJ]
   ·rename_i cs
    split at h
    ·rename_i hle
     cases h
     cases hx with
     | vptr _ b o vs hl hF hr =>
      refine ⟨_,?_,.vptr (cs.drop fd.offset) b (o+fd.offset) (vs.drop fd.offset) (by simp [hl]) (fun i hi => ?_) (fun i h1 h2 => ?_)⟩
      ·simp only [Instr.fieldAt,Sem.run_bind,run_underlying hu,Result.andThen_ok,hfd,Instr.sureAddr,Sem.run_pure,hp,zBJ]
      ·rw [List.getElem_drop,Nat.add_assoc]; exact hF _ (by simp at hi; omega)
      ·simp only [List.getElem_drop]; exact hr _ (by simp at h1; omega) (by simp at h2; omega)
    ·cases h
   ·cases h
 ·cases h

theorem zCG (hS:Sim B w0 g σ w) {t:Nat} {x i r:AV} {u j:Value} (hx:RV g x u) (hi:RV g i j) (h:zAU P σ t x i=some r):∃ z,(Instr.indexAt t u j).run P w = .ok z w/\RV g r z:=by
 unfold zAU at h
 split at h
 ·rename_i k n
  cases hi
  split at h
  ·rename_i e sz xs m hu
   split at h
   ·rename_i hc
    obtain ⟨hc1,hc2,hz,hpos⟩:=hc
    split at h
    ·rename_i v hxv
     cases h
     obtain ⟨a,cap,vs,rfl,hv⟩:=hx.slice_inv1 (.inr (by rintro rfl; simp at hxv))
     have hlt:n.toNat<xs.length:=by omega
     have hvl:vs.length=xs.length*sz:=by rw [<-hv.hr.1,zC5 hv.hsz]
     have hmul:(n.toNat+1)*sz<=xs.length*sz:=Nat.mul_le_mul_right _ hlt
     have hmul2:(n.toNat+1)*sz=n.toNat*sz+sz:=by rw [Nat.add_mul,Nat.one_mul]
     have hsp:a.spot=none:=hv.hsp (by omega)
     obtain ⟨q1,q2,q3⟩:=zC8 a (n.toNat*sz)
     have hadd:a.add (n.toNat*sz)=⟨a.block,a.off+n.toNat*sz,none⟩:=by rw [zC9 (q3 hsp),q1,q2]
     have hcells:=flat_get hv.hsz hxv
     have hrv:RVL g v.cells ((vs.drop (n.toNat*sz)).take sz):=by rw [hcells]; exact (hv.hr.drop _).take _
     refine ⟨.pointer (some (a.add (n.toNat*sz))),?_,?_⟩
     ·have hcond:(0<=n/\n<((xs.length:Nat):Int)):=⟨hc1,hc2⟩
      simp only [Instr.indexAt,asIntOf,Sem.run_bind,Sem.run_pure,Result.andThen_ok,run_underlying hu,hcond,and_self,if_true,zBQ hz w]
     ·rw [hadd]
      refine .vptr v.cells _ _ ((vs.drop (n.toNat*sz)).take sz) hrv.1 (fun q hq => ?_) hrv.2
      have hq':q<sz:=by simp at hq; omega
      rw [Nat.add_assoc,hv.hF (n.toNat*sz+q) (by omega)]
      simp
    ·cases h
   ·cases h
  ·rename_i e id off len hu
   split at h
   ·rename_i cs e' sz gr ho
    split at h
    ·rename_i hc
     obtain ⟨hc1,hc2,hz⟩:=hc
     cases h
     cases hx with
     | rslice _ _ _ i a cap hi hadr hcap hlen =>
      obtain ⟨i',c,h1,hs,_⟩:=hS.cells ho
      rw [hi] at h1; cases h1
      have hcap0:cap≠0:=by omega
      have ha:a=⟨i.blk,off*i.sz,none⟩:=hadr.resolve_right hcap0
      refine ⟨_,?_,.ptr id ((off+n.toNat)*sz) i hi⟩
      have hcond:(0<=n/\n<((len:Nat):Int)):=⟨hc1,hc2⟩
      simp only [Instr.indexAt,asIntOf,Sem.run_bind,Sem.run_pure,Result.andThen_ok,run_underlying hu,hcond,and_self,if_true,zBQ hz w]
      rw [ha,zBJ,hs,Nat.add_mul]
    ·cases h
   ·cases h
  ·rename_i len e id off hu
   split at h
   ·rename_i sz hz
    split at h
    ·rename_i hc
     cases h
     cases hx with
     | ptr _ _ i hi =>
      refine ⟨_,?_,.ptr id (off+n.toNat*sz) i hi⟩
      simp only [Instr.indexAt,asIntOf,Sem.run_bind,Sem.run_pure,Result.andThen_ok,run_underlying hu,hc,and_self,if_true,zBQ hz w,Instr.sureAddr,zBJ]
    ·cases h
   ·cases h
  ·rename_i len e cs hu
   split at h
   ·rename_i sz hz
    split at h
    ·rename_i hc
     obtain ⟨hc1,hc2,hc3⟩:=hc
     cases h
     cases hx with
     | vptr _ b o vs hl hF hr =>
      refine ⟨_,?_,.vptr (cs.drop (n.toNat*sz)) b (o+n.toNat*sz) (vs.drop (n.toNat*sz)) (by simp [hl]) (fun q hq => ?_) (fun q h1 h2 => ?_)⟩
      ·have hcond:(0<=n/\n<((len:Nat):Int)):=⟨hc1,hc2⟩
       simp only [Instr.indexAt,asIntOf,Sem.run_bind,Sem.run_pure,Result.andThen_ok,run_underlying hu,hcond,and_self,if_true,zBQ hz w,Instr.sureAddr,zBJ]
      ·rw [List.getElem_drop,Nat.add_assoc]; exact hF _ (by simp at hq; omega)
      ·simp only [List.getElem_drop]; exact hr _ (by simp at h1; omega) (by simp at h2; omega)
    ·cases h
   ·cases h
  ·cases h
 ·cases h

theorem index_ok {t:Nat} {x i r:AV} {u j:Value} (hx:RV g x u) (hi:RV g i j) (h:zAV P t x i=some r):∃ z,(Instr.index t u j).run P w = .ok z w/\RV g r z:=by
 unfold zAV at h
 split at h
 ·rename_i k n
  cases hi
  split at h
  ·rename_i len e cs hu
   split at h
   ·rename_i sz hz
    split at h
    ·rename_i hc
     obtain ⟨vs,rfl,hv⟩:=hx.agg_inv
     obtain ⟨z,h1,h2⟩:=zBT h hv w
     refine ⟨z,?_,h2⟩
     simp only [Instr.index,asIntOf,Sem.run_bind,Sem.run_pure,Result.andThen_ok,run_underlying hu,hc,and_self,if_true,zBQ hz w,h1]
    ·cases h
   ·cases h
  ·rename_i s hu
   split at h
   ·rename_i hn
    split at h
    ·rename_i b hb
     cases h
     cases hx
     refine ⟨_,?_,.int _ _⟩
     have hb':s[n.toNat]? = some b:=by
      obtain ⟨hlt,he⟩:=List.getElem?_eq_some_iff.1 hb
      have hlt':n.toNat<s.size:=by simpa using hlt
      rw [getElem?_pos s n.toNat hlt']
      congr 1
     simp only [Instr.index,asIntOf,Sem.run_bind,Sem.run_pure,Result.andThen_ok,run_underlying hu,hn,if_true,hb']
    ·cases h
   ·cases h
  ·cases h
 ·cases h

theorem ext_ok {i:Nat} {x r:AV} {u:Value} (hx:RV g x u) (h:aext x i=some r):∃ z,(Instr.extract u i).run P w = .ok z w/\RV g r z:=by
 unfold aext at h
 split at h
 ·obtain ⟨vs,rfl,hv⟩:=hx.tuple_inv
  obtain ⟨z,hz,hr⟩:=hv.get h
  have hz':vs[i]? = some z:=by simpa using hz
  exact ⟨z,by simp [Instr.extract,hz'],hr⟩
 ·cases h

theorem len_ok (hS:Sim B w0 g σ w) {t n:Nat} {x:AV} {u:Value} (hx:RV g x u) (h:alen P σ t x=some n):(Builtin.len_ #[t] 0 #[u]).run P w = .ok (.int .i64 n) w:=by
 unfold alen at h
 split at h
 ·rename_i s hu; cases h; cases hx
  simp only [Builtin.len_,Sem.run_bind,run_underlying hu,Result.andThen_ok]; simp [run_underlying hu,goInt]
 ·rename_i k e hu; cases h
  simp [Builtin.len_,run_underlying hu,goInt]
 ·rename_i e hu; cases h; cases hx
  simp [Builtin.len_,run_underlying hu,goInt]
 ·rename_i e sz xs m hu; cases h
  rcases hx.slice_inv with ⟨a,cap,vs,rfl,_⟩ | ⟨rfl,rfl,rfl⟩ <;> simp [Builtin.len_,run_underlying hu,goInt]
 ·rename_i e id off len hu; cases h; cases hx
  simp [Builtin.len_,run_underlying hu,goInt]
 ·rename_i k e hu; cases h; cases hx
  simp [Builtin.len_,run_underlying hu,goInt]
 ·rename_i k e id hu
  split at h
  ·rename_i es ho
   cases h
   cases hx with
   | map _ i hi =>
    have:=hS.objs id
    rw [ho] at this
    obtain ⟨i',ms,cl,h1,h2,h3,h4,h5⟩:=this
    rw [hi] at h1; cases h1
    simp [Builtin.len_,run_underlying hu,getObj,Sem.run,h3,goInt,h4]
  ·cases h
 ·cases h

end
end Go.V
namespace Go.V
open Go.RowKit

theorem zCH:∀ (cs:List AV) (n:Nat),n<=cs.length->zAH none cs n=cs.take n
 | _,0,_=>by simp [zAH]
 | [],n+1,h=>by simp at h
 | c :: cs,n+1,h=>by simp only [zAH,List.take_succ_cons]; rw [zCH cs n (by simpa using h)]

theorem zCI (k:Option Nat):∀ (cs:List AV) (n sz:Nat),k.getD 1=sz->n*sz<=cs.length->(zAH k cs n).length=n
 | _,0,_,_,_=>by simp [zAH]
 | cs,n+1,sz,hk,h=>by
  rw [Nat.succ_mul] at h
  cases k with
  | none =>
   cases cs with
   | nil=>simp at hk; subst hk; simp at h
   | cons c cs=>simp only [zAH,List.length_cons]; rw [zCI none cs n sz hk (by simp at hk; subst hk; simp at h ⊢; omega)]
  | some m =>
   simp at hk; subst hk
   simp only [zAH,List.length_cons]
   rw [zCI (some m) (cs.drop m) n m (by simp) (by simp; omega)]

theorem zCJ (k:Option Nat):∀ (cs:List AV) (n sz:Nat),k.getD 1=sz->n*sz<=cs.length->cs.all AV.one=true->zA0 (zAH k cs n)=cs.take (n*sz)
 | _,0,_,_,_,_=>by simp [zAH,zA0]
 | cs,n+1,sz,hk,h,h1=>by
  rw [Nat.succ_mul] at h
  cases k with
  | none =>
   simp at hk; subst hk
   cases cs with
   | nil=>simp at h
   | cons c cs =>
    simp only [List.all_cons,Bool.and_eq_true] at h1
    simp only [zAH,zC3]
    rw [zCJ none cs n 1 (by simp) (by simp at h ⊢; omega) h1.2]
    have:c.cells=[c]:=by cases c <;> first | rfl | (simp [AV.one] at h1; done)
    rw [this]; simp
  | some m =>
   simp at hk; subst hk
   simp only [zAH,zC3]
   rw [zCJ (some m) (cs.drop m) n m (by simp) (by simp; omega) (by
    rw [List.all_eq_true] at h1 ⊢; exact fun x hx=>h1 x (List.mem_of_mem_drop hx))]
   show cs.take m++_=_
   rw [Nat.succ_mul,Nat.add_comm,List.take_add]

theorem zCK (k:Option Nat):∀ (cs:List AV) (n sz:Nat),k.getD 1=sz->n*sz<=cs.length->cs.all AV.one=true->∀ x∈zAH k cs n,x.cells.length=sz
 | _,0,_,_,_,_=>by simp [zAH]
 | cs,n+1,sz,hk,h,h1=>by
  rw [Nat.succ_mul] at h
  cases k with
  | none =>
   simp at hk; subst hk
   cases cs with
   | nil=>simp at h
   | cons c cs =>
    simp only [List.all_cons,Bool.and_eq_true] at h1
    simp only [zAH]
    intro x hx
    rcases List.mem_cons.1 hx with rfl | hx
    ·cases x <;> first | rfl | (simp [AV.one] at h1; done)
    ·exact zCK none cs n 1 (by simp) (by simp at h ⊢; omega) h1.2 x hx
  | some m =>
   simp at hk; subst hk
   simp only [zAH]
   intro x hx
   rcases List.mem_cons.1 hx with rfl | hx
   ·show (cs.take m).length=m
    rw [List.length_take]; omega
   ·refine zCK (some m) (cs.drop m) n m (by simp) (by simp; omega) (by rw [List.all_eq_true] at h1 ⊢; exact fun x hx=>h1 x (List.mem_of_mem_drop hx)) x hx

section
variable {P:Program} {B:Nat} {w0:World} {g:zA2} {σ:zA6} {w:World}
structure Src (g:zA2) (w:World) (sz:Nat) (ys:List AV) (u:Value):Prop where
 nil:u = .slice none 0 0->ys=[]
 form:(u = .slice none 0 0)\/∃ a cap vs,u = .slice (some a) ys.length cap/\RVL g (zA0 ys) vs/\(∀ j v,vs[j]? = some v->w.cell? (a.add j)=some v)/\(zA0 ys).all AV.one=true
 sz:∀ y∈ys,y.cells.length=sz

theorem zCL (hS:Sim B w0 g σ w) {k:Option Nat} {sz:Nat} {y:AV} {ys:List AV} {u:Value} (hy:RV g y u) (h:zB7 σ k sz y=some ys):Src g w sz ys u:=by
 unfold zB7 at h
 split at h
 ·cases h; cases hy
  exact ⟨fun _=>rfl,.inl rfl,by simp⟩
 ·rename_i s ys' m
  split at h
  ·rename_i hc
   obtain ⟨rfl,hk⟩:=hc
   cases h
   rcases hy.slice_inv with ⟨a,cap,vs,rfl,hv⟩ | ⟨rfl,rfl,rfl⟩
   case inr=>exact ⟨fun _=>rfl,.inl rfl,by simp⟩
   refine ⟨by simp,.inr ⟨a,cap,vs,rfl,hv.hr,fun j v hj => ?_,hv.h1⟩,hv.hsz⟩
   obtain ⟨hlt,rfl⟩:=List.getElem?_eq_some_iff.1 hj
   have hsp:=hv.hsp (by omega)
   rw [zC9 hsp,zBJ]
   exact hS.froz _ _ _ (hv.hF j hlt)
  ·cases h
 ·rename_i id off len
  split at h
  ·rename_i cs e s gr ho
   split at h
   ·rename_i hc
    obtain ⟨rfl,hk,hle⟩:=hc
    cases h
    obtain ⟨i,c,h1,hs,hB,hh,hlc,hg,hct,hmx,hr,h1c,hF⟩:=hS.cells ho
    cases hy with
    | rslice _ _ _ i' a cap hi hadr hcap hlen =>
     rw [hi] at h1; cases h1
     have hone:cs.all AV.one=true:=h1c
     have hmul:(off+len)*s=off*s+len*s:=Nat.add_mul ..
     have hone':((cs.drop (off*s)).take (len*s)).all AV.one=true:=by
      rw [List.all_eq_true] at hone ⊢
      exact fun x hx=>hone x (List.mem_of_mem_drop (List.mem_of_mem_take hx))
     have hl':len*s<=((cs.drop (off*s)).take (len*s)).length:=by simp; omega
     have hln:=zCI k ((cs.drop (off*s)).take (len*s)) len s hk hl'
     have hfl:=zCJ k ((cs.drop (off*s)).take (len*s)) len s hk hl' hone'
     refine ⟨by simp,.inr ⟨a,cap,((c.toList.take cs.length).drop (off*s)).take (len*s),by rw [hln],?_,fun j v hj => ?_,by rw [hfl,List.take_take,Nat.min_self]; exact hone'⟩,zCK k _ len s hk hl' hone'⟩
     ·rw [hfl,List.take_take,Nat.min_self]
      exact (hr.drop _).take _
     ·have hj':j<len*s:=by
       have:=(List.getElem?_eq_some_iff.1 hj).1
       simp at this; omega
      have hcap0:cap≠0:=by
       intro e0; subst e0
       have:len=0:=by omega
       subst this; simp at hj'
      have ha:a=⟨i.blk,off*i.sz,none⟩:=hadr.resolve_right hcap0
      rw [ha,zBJ,hs]
      have hlt2:off*s+j<c.size:=by omega
      rw [List.getElem?_take,if_pos hj',List.getElem?_drop,List.getElem?_take,if_pos (by omega)] at hj
      simp only [World.cell?,hh,Option.isSome_none,Bool.false_eq_true,if_false]
      simpa using hj
   ·cases h
  ·cases h
 ·rename_i id off len
  split at h
  ·rename_i cs e s gr ho
   split at h
   ·rename_i hc
    obtain ⟨rfl,hk,hle⟩:=hc
    cases h
    obtain ⟨i,c,h1,hs,hB,hh,hlc,hg,hct,hmx,hr,h1c,hF⟩:=hS.cells ho
    cases hy with
    | view _ _ _ i' a cap hi hadr hcap hlen =>
     rw [hi] at h1; cases h1
     have hone:cs.all AV.one=true:=h1c
     have hmul:(off+len)*s=off*s+len*s:=Nat.add_mul ..
     have hone':((cs.drop (off*s)).take (len*s)).all AV.one=true:=by
      rw [List.all_eq_true] at hone ⊢
      exact fun x hx=>hone x (List.mem_of_mem_drop (List.mem_of_mem_take hx))
     have hl':len*s<=((cs.drop (off*s)).take (len*s)).length:=by simp; omega
     have hln:=zCI k ((cs.drop (off*s)).take (len*s)) len s hk hl'
     have hfl:=zCJ k ((cs.drop (off*s)).take (len*s)) len s hk hl' hone'
     refine ⟨by simp,.inr ⟨a,cap,((c.toList.take cs.length).drop (off*s)).take (len*s),by rw [hln],?_,fun j v hj => ?_,by rw [hfl,List.take_take,Nat.min_self]; exact hone'⟩,zCK k _ len s hk hl' hone'⟩
     ·rw [hfl,List.take_take,Nat.min_self]
      exact (hr.drop _).take _
     ·have hj':j<len*s:=by
       have:=(List.getElem?_eq_some_iff.1 hj).1
       simp at this; omega
      have hcap0:cap≠0:=by
       intro e0; subst e0
       have:len=0:=by omega
       subst this; simp at hj'
      have ha:a=⟨i.blk,off*i.sz,none⟩:=hadr.resolve_right hcap0
      rw [ha,zBJ,hs]
      have hlt2:off*s+j<c.size:=by omega
      rw [List.getElem?_take,if_pos hj',List.getElem?_drop,List.getElem?_take,if_pos (by omega)] at hj
      simp only [World.cell?,hh,Option.isSome_none,Bool.false_eq_true,if_false]
      simpa using hj
   ·cases h
  ·cases h
 ·cases h

theorem Sim.regrow (h:Sim B w0 g σ w) {id e sz:Nat} {cs:List AV} {gr:Bool} {i:zA1} {c c':Array Value} (ho:σ.objs id = .cells cs e sz gr) (hi:g.info id=some i)
  (hh:w.heap[i.blk]? = some (.cells c e (0,0))) (cs':List AV) (hc's:c'.size=c.size) (hl:cs'.length<=c'.size) (hr:RVL g cs' (c'.toList.take cs'.length)) (h1:cs'.all AV.one=true) :
  g.Le (g.add σ.next i)/\Sim B w0 (g.add σ.next i) ((σ.set id .dead).new (.cells cs' e sz true)) (w.setRow i.blk c'):=by
 obtain ⟨i',c0,hi',hs,hB,hh',_,_,hct,hmx,_,_,hF⟩:=h.cells ho
 rw [hi] at hi'; cases hi'
 rw [hh] at hh'; cases hh'
 have hd:σ.objs id ≠ .dead:=by rw [ho]; simp
 have hidn:id≠σ.next:=by have:=h.live hd; omega
 have hle:g.Le (g.add σ.next i):=zA2.le_add (h.next _ (Nat.le_refl _)).1 _
 refine ⟨hle,h.turn i.blk (fun j=>j=id\/j=σ.next) hle (h.resO id i hd hi) hB rfl rfl rfl (by simp [World.setRow]) (fun b hb _=>setRow_other w i.blk b c' hb) (fun _ _ _=>rfl) ?_ ?_ ?_ ?_ ?_ ?_⟩
 ·intro o v hv
  rw [zA2.add_F,hF] at hv; cases hv
 ·intro j hj
  have hj1:j≠id:=fun e=>hj (.inl e)
  have hj2:j≠σ.next:=fun e=>hj (.inr e)
  refine ⟨by simp [zA6.new,zA6.set,hj1,hj2],fun hdj pj hpj e => ?_⟩
  exact h.inj j id pj i hpj hi hdj hd hj1 e
 ·rintro j (rfl | rfl)
  ·have:((σ.set j .dead).new (.cells cs' e sz true)).objs j = .dead:=by simp [zA6.new,zA6.set,hidn]
   rw [this]; trivial
  ·have:((σ.set id .dead).new (.cells cs' e sz true)).objs σ.next = .cells cs' e sz true:=by simp [zA6.new,zA6.set]
   rw [this]
   exact ⟨i,c',by simp,hs,hB,setRow_heap w i.blk c c' e _ hh,hl,by simp,by rw [hc's]; exact hct,hmx,hr.mono hle,h1,fun o=>hF o⟩
 ·intro a b ha hb h3 h4
  have key:∀ j,(j=id\/j=σ.next)->((σ.set id .dead).new (.cells cs' e sz true)).objs j ≠ .dead->j=σ.next:=by
   rintro j (rfl | rfl) hj
   ·exact absurd (by simp [zA6.new,zA6.set,hidn]) hj
   ·rfl
  rw [key a ha h3,key b hb h4]
 ·rintro j pj (rfl | rfl) h3 hpj
  ·exact absurd (by simp [zA6.new,zA6.set,hidn]) h3
  ·simp at hpj
   rw [<-hpj]
 ·intro j hj
  have hj':σ.next+1<=j:=hj
  have hne:j≠σ.next:=by omega
  have hne2:j≠id:=by have:=h.live hd; omega
  refine ⟨?_,by simp [zA6.new,zA6.set,hne,hne2]; exact (h.next j (by omega)).2⟩
  show (if j=σ.next then _ else g.info j)=none
  rw [if_neg hne]
  exact (h.next j (by omega)).1

theorem zCM (hS:Sim B w0 g σ w) {xs:List AV} {sz e cap:Nat} (hsz:∀ x∈xs,x.cells.length=sz) (h1:(zA0 xs).all AV.one=true) {c:Array Value} (hr:RVL g (zA0 xs) (c.toList.take (xs.length*sz)))
  (hc:c.size=cap*sz) (hn:xs.length<=cap) (hm:cap<=maxLen) :
  ∃ g',g.Le g'/\Sim B w0 g' (σ.new (.tok xs.length e sz)) (w.alloc (.cells c e))/\RV g' (.slice sz xs (.tok σ.next)) (.slice (some ⟨w.heap.size,0,none⟩) xs.length cap):=by
 obtain ⟨hle,hs⟩:=hS.newTok c e xs.length cap sz hn hc hm
 refine ⟨_,hle,hs,zCA.rv (vs:=c.toList.take (xs.length*sz)) ⟨hsz,hr.mono hle,fun _=>rfl,fun i hi => ?_,h1,hn,?_⟩⟩
 ·rw [zA2.add_F,zA2.frz_F,Nat.zero_add]
  exact List.getElem?_eq_getElem hi
 ·exact ⟨⟨w.heap.size,cap,sz⟩,by simp,.inl rfl,rfl,rfl⟩

theorem zCN (hS:Sim B w0 g σ w) {cs:List AV} {n sz e cap:Nat} (hl:cs.length=n*sz) (h1:cs.all AV.one=true) {c:Array Value} (hr:RVL g cs (c.toList.take cs.length))
  (hc:c.size=cap*sz) (hn:n<=cap) (hm:cap<=maxLen) (gr:Bool) (hgr:gr=false->n=cap) :
  ∃ g',g.Le g'/\Sim B w0 g' (σ.new (.cells cs e sz gr)) (w.alloc (.cells c e))/\RV g' (.rslice σ.next 0 n) (.slice (some ⟨w.heap.size,0,none⟩) n cap):=by
 have hle:g.Le (g.add σ.next ⟨w.heap.size,cap,sz⟩):=zA2.le_add (h:=(hS.next _ (Nat.le_refl _)).1) _
 have hlc:cs.length<=c.size:=by rw [hl,hc]; exact Nat.mul_le_mul_right _ hn
 obtain ⟨h2,hs⟩:=hS.new (.cells cs e sz gr) (.cells c e) cap sz ⟨⟨w.heap.size,cap,sz⟩,c,by simp,rfl,hS.size,zA8 w _,hlc,fun h=>by rw [hl,hc,hgr h],hc,hm,hr.mono hle,h1,fun o=>by rw [zA2.add_F]; exact hS.F_new o⟩
 exact ⟨_,hle,hs,.rslice σ.next 0 n ⟨w.heap.size,cap,sz⟩ _ cap (by simp) (.inl (by simp)) (by simp) hn⟩

theorem zCO {t e n c n':Nat} {base b:Option Addr} {sz:Nat} (ht:P.underlying t=some (.slice e)) (hz:szT P e=some sz) (hn:n<=c) (ty:Nat) (w:World) :
  (Builtin.append_ #[t,t] ty #[.slice base n c,.slice b 0 n']).run P w = .ok (.slice base n c) w:=by
 have hl:∀ x:Addr,(loadCells x 0).run P w = .ok #[] w:=fun x=>by simpa using run_loadCells_list (P:=P) w x [] (by simp)
 cases base <;> cases b <;> simp [Builtin.append_,run_underlying ht,zBQ hz w,Builtin.lenOf,hn,Builtin.firstCells,hl,storeCells]

theorem zCP (σ:zA6) (id:Nat):(σ.set id .dead).Le σ:=⟨rfl,fun j=>by
 by_cases e:j=id
 ·right; simp [zA6.set,e]
 ·left; simp [zA6.set,e]⟩

theorem zCQ (w:World) {need old e:Nat} (h:need<=4611686018427387904):grownCap w need old e<=maxLen:=grownCap_le_maxLen w need old e (by unfold maxLen; omega)

theorem zCR (z:Array Value) (m sz:Nat) (h:z.size=sz):(Builtin.zeroCells z m).size=m*sz:=by rw [size_zeroCells,h]

theorem zCS (hS:Sim B w0 g σ w) {ann:Ann} {t t' ty:Nat} {x y r:AV} {u v:Value} {σ':zA6} (hx:RV g x u) (hy:RV g y v) (h:zB8 P σ ann t t' x y = .ok r σ') :
  ∃ g' w' z,g.Le g'/\Sim B w0 g' σ' w'/\RV g' r z/\(Builtin.append_ #[t,t'] ty #[u,v]).run P w = .ok z w':=by
 unfold zB8 at h
 split at h
 case h_2=>cases h
 rename_i e he
 have ht:=zBR he
 split at h
 case h_2=>cases h
 rename_i sz by' z k hsz hby hz hk
 split at h
 case h_2=>cases h
 rename_i ys hys
 have hsrc:=zCL hS hy hys
 obtain ⟨ie,hie,hie1⟩:∃ ie,P.info? e=some ie/\ie.size=sz:=by
  unfold szT at hsz
  cases hi:P.info? e with
  | none=>simp [hi] at hsz
  | some i=>simp [hi] at hsz; exact ⟨i,rfl,hsz⟩
 have hie2:ie.bytes=by':=by simpa [byT,hie] using hby
 have hie3:ie.zero=some z:=by simpa [zAB,hie] using hz
 split at h
 ·cases h
 rename_i htt
 have htt':t'=t:=Decidable.byContradiction htt
 subst htt'
 split at h
 ·-- nothing is appended
  rename_i hemp
  have hy0:ys=[]:=by simpa using hemp
  subst hy0
  have hv:∃ b n',v = .slice b 0 n':=by
   rcases hsrc.form with rfl | ⟨a,cap,vs,rfl,_⟩
   ·exact ⟨none,0,rfl⟩
   ·exact ⟨some a,cap,rfl⟩
  obtain ⟨b,n',rfl⟩:=hv
  have hu:∃ base n c,u = .slice base n c/\n<=c/\r=x/\σ'=σ:=by
   split at h
   ·cases h; cases hx; exact ⟨none,0,0,rfl,Nat.le_refl _,rfl,rfl⟩
   ·cases h
    rcases hx.slice_inv with ⟨a,cap,vs,rfl,hv⟩ | ⟨rfl,rfl,rfl⟩
    ·exact ⟨_,_,_,rfl,hv.hcap,rfl,rfl⟩
    ·exact ⟨none,0,0,rfl,Nat.le_refl _,rfl,rfl⟩
   ·cases h
    cases hx with
    | rslice _ _ _ i a cap h1 h2 h3 h4=>exact ⟨_,_,_,rfl,h4,rfl,rfl⟩
   ·cases h
  obtain ⟨base,n,c,rfl,hn,rfl,rfl⟩:=hu
  exact ⟨g,w,_,.refl g,hS,hx,zCO ht hsz hn ty w⟩
 ·rename_i hemp
  have hy0:ys≠[]:=by simpa using hemp
  have hylen:0<ys.length:=List.length_pos_iff.2 hy0
  split at h
  case isFalse=>cases h
  rename_i hpos
  obtain ⟨hpos,hzc⟩:=hpos
  obtain ⟨a,cap,vs,rfl,hvr,hvc,hv1⟩:∃ a cap vs,v = .slice (some a) ys.length cap/\RVL g (zA0 ys) vs/\(∀ j v,vs[j]? = some v->w.cell? (a.add j)=some v)/\(zA0 ys).all AV.one=true:=by
   rcases hsrc.form with rfl | hf
   ·exact absurd (hsrc.nil rfl) hy0
   ·exact hf
  have hvl:vs.length=ys.length*ie.size:=by rw [<-hvr.1,zC5 hsrc.sz,hie1]
  have hvl':vs.length=ys.length*sz:=by rw [hvl,hie1]
  have hv1c:=hvr.one hv1
  split at h
  ·-- onto nil
   cases hx
   split at h
   case isFalse=>cases h
   rename_i hb
   obtain ⟨hb1,hb2⟩:=hb
   have hrun:=run_append_nil (P:=P) w t' ty e ie z ht hie hie3 a ys.length cap vs hvl hvc hylen (by omega) (by rw [hie2]; omega)
   have hge:ys.length<=grownCap w ys.length 0 e:=grownCap_ge w _ _ _
   have hmx:grownCap w ys.length 0 e<=maxLen:=zCQ w hb2
   have hcs:(vs.toArray++Builtin.zeroCells z.cells (grownCap w ys.length 0 e - ys.length)).size=grownCap w ys.length 0 e*sz:=by
    rw [Array.size_append,zCR _ _ sz hzc,List.size_toArray,hvl',<-Nat.add_mul]
    congr 1; omega
   have htk:(vs.toArray++Builtin.zeroCells z.cells (grownCap w ys.length 0 e - ys.length)).toList.take (ys.length*sz)=vs:=by
    rw [Array.toList_append,<-hvl']; exact List.take_left
   split at h
   ·cases h
    obtain ⟨g',h1,h2,h3⟩:=zCN hS.drew (e:=e) (cs:=zA0 ys) (n:=ys.length) (by rw [zC5 hsrc.sz]) hv1 (c:=vs.toArray++Builtin.zeroCells z.cells (grownCap w ys.length 0 e - ys.length)) (by rw [zC5 hsrc.sz,htk]; exact hvr) hcs hge hmx true (by simp)
    exact ⟨g',_,_,h1,h2,h3,hrun⟩
   ·cases h
    obtain ⟨g',h1,h2,h3⟩:=zCM hS.drew (e:=e) hsrc.sz hv1 (c:=vs.toArray++Builtin.zeroCells z.cells (grownCap w ys.length 0 e - ys.length)) (by rw [htk]; exact hvr) hcs hge hmx
    exact ⟨g',_,_,h1,h2,h3,hrun⟩
  ·-- onto a full slice
   rename_i s xs
   split at h
   case isFalse=>cases h
   rename_i hc
   obtain ⟨rfl,hb1,hb2⟩:=hc
   obtain ⟨a',cap',us,rfl,hu⟩:=hx.slice_inv1 (.inl (by simp))
   have hcap:cap'=xs.length:=hu.hm
   subst hcap
   have hul:us.length=xs.length*ie.size:=by rw [<-hu.hr.1,zC5 hu.hsz,hie1]
   have huc:∀ j v,us[j]? = some v->w.cell? (a'.add j)=some v:=fun j v hj=>by
    obtain ⟨hlt,rfl⟩:=List.getElem?_eq_some_iff.1 hj
    rw [zC9 (hu.hsp (by omega)),zBJ]
    exact hS.froz _ _ _ (hu.hF j hlt)
   have hrun:=run_append_grow (P:=P) w t' ty e ie z ht hie hie3 a' xs.length xs.length us hul huc a ys.length cap vs hvl hvc (by omega) (by omega) (by rw [hie2]; exact growslice_fits (by omega) hb1)
   have hge:xs.length+ys.length<=grownCap w (xs.length+ys.length) xs.length e:=grownCap_ge w _ _ _
   have hmx:=zCQ w (old:=xs.length) (e:=e) hb2
   have hcs:(us.toArray++vs.toArray++Builtin.zeroCells z.cells (grownCap w (xs.length+ys.length) xs.length e - (xs.length+ys.length))).size=grownCap w (xs.length+ys.length) xs.length e*s:=by
    rw [Array.size_append,Array.size_append,zCR _ _ s hzc,List.size_toArray,List.size_toArray,hvl',hul,hie1,<-Nat.add_mul,<-Nat.add_mul]
    congr 1; omega
   have hxy:(xs++ys).length=xs.length+ys.length:=List.length_append
   have htk:(us.toArray++vs.toArray++Builtin.zeroCells z.cells (grownCap w (xs.length+ys.length) xs.length e - (xs.length+ys.length))).toList.take ((xs++ys).length*s)=us++vs:=by
    have:(us++vs).length=(xs++ys).length*s:=by rw [List.length_append,hvl',hul,hie1,hxy,Nat.add_mul]
    rw [Array.toList_append,Array.toList_append,<-this]; exact List.take_left
   have hone:(zA0 (xs++ys)).all AV.one=true:=by rw [zC4,List.all_append,hu.h1,hv1]; rfl
   have hszs:∀ x∈xs++ys,x.cells.length=s:=fun x hx=>(List.mem_append.1 hx).elim (hu.hsz x) (hsrc.sz x)
   split at h
   ·cases h
    obtain ⟨g',h1,h2,h3⟩:=zCN hS.drew (e:=e) (cs:=zA0 (xs++ys)) (n:=(xs++ys).length) (by rw [zC5 hszs]) hone
     (c:=us.toArray++vs.toArray++Builtin.zeroCells z.cells (grownCap w (xs.length+ys.length) xs.length e - (xs.length+ys.length))) (by rw [zC5 hszs,htk,zC4]; exact hu.hr.append hvr) hcs (by rw [hxy]; exact hge) hmx true (by simp)
    exact ⟨g',_,_,h1,h2,h3,by rw [hxy]; exact hrun⟩
   ·cases h
    obtain ⟨g',h1,h2,h3⟩:=zCM hS.drew (e:=e) (xs:=xs++ys) (sz:=s) (fun x hx=>(List.mem_append.1 hx).elim (hu.hsz x) (hsrc.sz x)) (by rw [zC4,List.all_append,hu.h1,hv1]; rfl)
     (c:=us.toArray++vs.toArray++Builtin.zeroCells z.cells (grownCap w (xs.length+ys.length) xs.length e - (xs.length+ys.length))) (by rw [htk,zC4]; exact hu.hr.append hvr) hcs (by rw [hxy]; exact hge) hmx
    rw [hxy] at h2 h3
    exact ⟨g',_,_,h1,h2,h3,hrun⟩
  ·-- onto a slice that may grow
   rename_i s xs id
   split at h
   case isFalse=>cases h
   rename_i hc
   obtain ⟨rfl,hb1,hb2⟩:=hc
   split at h
   case h_2=>cases h
   rename_i n e' s' ho
   split at h
   case isFalse=>cases h
   rename_i hc2
   obtain ⟨rfl,rfl,rfl⟩:=hc2
   cases h
   obtain ⟨a',cap',us,rfl,hu⟩:=hx.slice_inv1 (.inl (by simp))
   obtain ⟨i,hi,hadr,hcap,hsi⟩:=hu.hm
   have hobj:=hS.objs id
   rw [ho] at hobj
   obtain ⟨i',c,hi',hs',hB,hh,hnt,hcsz,hmxt,hF⟩:=hobj
   rw [hi] at hi'; cases hi'
   have hul:us.length=xs.length*ie.size:=by rw [<-hu.hr.1,zC5 hu.hsz,hie1]
   have huc:∀ j v,us[j]? = some v->w.cell? (a'.add j)=some v:=fun j v hj=>by
    obtain ⟨hlt,rfl⟩:=List.getElem?_eq_some_iff.1 hj
    rw [zC9 (hu.hsp (by omega)),zBJ]
    exact hS.froz _ _ _ (hu.hF j hlt)
   have hxy:(xs++ys).length=xs.length+ys.length:=List.length_append
   by_cases hroom:xs.length+ys.length<=cap'
   ·have ha':a'=⟨i.blk,0,none⟩:=hadr.resolve_right (by omega)
    subst ha'
    have hmul:(xs.length+ys.length)*s'=xs.length*s'+ys.length*s':=Nat.add_mul ..
    have hcs':c.size=cap'*s':=by rw [hcsz,hcap,hs']
    have hfit:xs.length*ie.size+vs.length<=c.size:=by rw [hie1,hvl',<-hmul,hcs']; exact Nat.mul_le_mul_right _ hroom
    have hrun:=run_append_room (P:=P) w t' ty e' ie ht hie i.blk xs.length cap' c hh a ys.length cap vs hvl hvc hv1c hroom hfit
    obtain ⟨h1,h2⟩:=hS.grow ho hi hh vs ys.length (by rw [hvl',hs']) (by rw [<-hcap]; exact hroom)
    have hus:us=c.toList.take (xs.length*s'):=by
     apply List.ext_getElem?
     intro j
     rcases Nat.lt_or_ge j us.length with hj | hj
     ·have h3:=hS.froz _ _ _ (hu.hF j hj)
      simp only [World.cell?,Nat.zero_add,hh,Option.isSome_none,Bool.false_eq_true,if_false] at h3
      have hlt:j<xs.length*s':=by rw [hul,hie1] at hj; exact hj
      rw [List.getElem?_take,if_pos hlt,List.getElem?_eq_getElem hj]
      have h3':c[j]? = some us[j]:=h3
      simpa using h3'.symm
     ·rw [List.getElem?_eq_none hj,List.getElem?_eq_none]
      rw [List.length_take,hul,hie1] at *
      omega
    rw [hie1] at hrun
    refine ⟨_,_,_,h1,by rw [<-hs']; rw [<-hs'] at h2; exact h2,?_,by rw [hs'] ; exact hrun⟩
    rw [<-hxy]
    refine zCA.rv (vs:=us++vs) ⟨fun x hx=>(List.mem_append.1 hx).elim (hu.hsz x) (hsrc.sz x),?_,fun _=>rfl,fun q hq => ?_,by rw [zC4,List.all_append,hu.h1,hv1]; rfl,by rw [hxy]; exact hroom,?_⟩
    ·rw [zC4]; exact (hu.hr.append hvr).mono h1
    ·rw [zA2.add_F,Nat.zero_add,zA2.frz_F,hs',<-hus]
     exact List.getElem?_eq_getElem hq
    ·exact ⟨i,by simp,.inl rfl,hcap,hs'.symm⟩
   ·have hrun:=run_append_grow (P:=P) w t' ty e' ie z ht hie hie3 a' xs.length cap' us hul huc a ys.length cap vs hvl hvc (by omega) (by omega) (by rw [hie2]; exact growslice_fits (by omega) hb1)
    have hge:xs.length+ys.length<=grownCap w (xs.length+ys.length) cap' e':=grownCap_ge w _ _ _
    have hmx:=zCQ w (old:=cap') (e:=e') hb2
    have hcs:(us.toArray++vs.toArray++Builtin.zeroCells z.cells (grownCap w (xs.length+ys.length) cap' e' - (xs.length+ys.length))).size=grownCap w (xs.length+ys.length) cap' e'*s':=by
     rw [Array.size_append,Array.size_append,zCR _ _ s' hzc,List.size_toArray,List.size_toArray,hvl',hul,hie1,<-Nat.add_mul,<-Nat.add_mul]
     congr 1; omega
    have htk:(us.toArray++vs.toArray++Builtin.zeroCells z.cells (grownCap w (xs.length+ys.length) cap' e' - (xs.length+ys.length))).toList.take ((xs++ys).length*s')=us++vs:=by
     have:(us++vs).length=(xs++ys).length*s':=by rw [List.length_append,hvl',hul,hie1,hxy,Nat.add_mul]
     rw [Array.toList_append,Array.toList_append,<-this]; exact List.take_left
    obtain ⟨g',h1,h2,h3⟩:=zCM (hS.forget (zCP σ id)).drew (e:=e') (xs:=xs++ys) (sz:=s') (fun x hx=>(List.mem_append.1 hx).elim (hu.hsz x) (hsrc.sz x)) (by rw [zC4,List.all_append,hu.h1,hv1]; rfl)
     (c:=us.toArray++vs.toArray++Builtin.zeroCells z.cells (grownCap w (xs.length+ys.length) cap' e' - (xs.length+ys.length))) (by rw [htk,zC4]; exact hu.hr.append hvr) hcs (by rw [hxy]; exact hge) hmx
    rw [hxy] at h2 h3
    exact ⟨g',_,_,h1,h2,h3,hrun⟩
  ·-- onto an object's slice
   rename_i id off len
   split at h
   ·split at h
    ·split at h
     ·split at h <;> cases h
     ·cases h
    ·cases h
   split at h
   case isFalse=>cases h
   rename_i hc
   obtain ⟨rfl,hb1,hb2⟩:=hc
   split at h
   case h_2=>cases h
   rename_i cs e' s' gr ho
   split at h
   case isFalse=>cases h
   rename_i hc2
   obtain ⟨rfl,rfl,hlen⟩:=hc2
   cases h
   obtain ⟨i,c,h1,hs,hB,hh,hlc,hg,hct,hmxt,hr,h1c,hF⟩:=hS.cells ho
   have hcl:(cs.take (len*s')).length=len*s':=by simp; omega
   have hrl:RVL g (cs.take (len*s')) (c.toList.take (len*s')):=by
    have:=hr.take (len*s')
    rwa [List.take_take,Nat.min_eq_left hlen] at this
   have h1l:(cs.take (len*s')).all AV.one=true:=by
    rw [List.all_eq_true] at h1c ⊢; exact fun x hx=>h1c x (List.mem_of_mem_take hx)
   have hul:(c.toList.take (len*s')).length=len*ie.size:=by rw [<-hrl.1,hcl,hie1]
   have hnl:(cs.take (len*s')++zA0 ys).length=(len+ys.length)*s':=by rw [List.length_append,hcl,zC5 hsrc.sz,Nat.add_mul]
   have hone:(cs.take (len*s')++zA0 ys).all AV.one=true:=by rw [List.all_append,h1l,hv1]; rfl
   cases hx with
   | rslice _ _ _ i' a' cap' hi hadr hcap hlen' =>
    rw [hi] at h1; cases h1
    have hcap':cap'=i.tot:=by omega
    by_cases hroom:len+ys.length<=cap'
    ·have ha':a'=⟨i.blk,0,none⟩:=by have:=hadr.resolve_right (by omega); simpa using this
     subst ha'
     have hmul:(len+ys.length)*s'=len*s'+ys.length*s':=Nat.add_mul ..
     have hcs':c.size=cap'*s':=by rw [hct,hcap',hs]
     have hfit0:len*s'+vs.length<=c.size:=by rw [hvl',<-hmul,hcs']; exact Nat.mul_le_mul_right _ hroom
     have hrun:=run_append_room (P:=P) w t' ty e' ie ht hie i.blk len cap' c hh a ys.length cap vs hvl hvc hv1c hroom (by rw [hie1]; exact hfit0)
     rw [hie1] at hrun
     have hc's:(c.toList.take (len*s')++vs++c.toList.drop (len*s'+vs.length)).toArray.size=c.size:=by simp; omega
     have htk:(c.toList.take (len*s')++vs++c.toList.drop (len*s'+vs.length)).toArray.toList.take (cs.take (len*s')++zA0 ys).length=c.toList.take (len*s')++vs:=by
      have:(c.toList.take (len*s')++vs).length=(cs.take (len*s')++zA0 ys).length:=by rw [List.length_append,List.length_append,hul,hie1,hcl,hvr.1]
      rw [<-this]; exact List.take_left
     obtain ⟨k1,k2⟩:=hS.regrow ho hi hh (cs.take (len*s')++zA0 ys) hc's (by rw [hc's,hnl,hmul,<-hvl']; exact hfit0) (by rw [htk]; exact hrl.append hvr) hone
     refine ⟨_,_,_,k1,k2,.rslice σ.next 0 (len+ys.length) i ⟨i.blk,0,none⟩ cap' (by simp) (.inl (by simp)) (by omega) hroom,hrun⟩
    ·have huc:∀ j v,(c.toList.take (len*s'))[j]? = some v->w.cell? (a'.add j)=some v:=fun j v hj=>by
      rw [List.getElem?_take] at hj
      split at hj
      ·have hc0:cap'≠0:=by
        intro e0; subst e0
        have:len=0:=by omega
        subst this; omega
       rw [hadr.resolve_right hc0,zBJ]
       simp only [World.cell?,hh,Nat.zero_mul,Nat.zero_add,Option.isSome_none,Bool.false_eq_true,if_false]
       simpa using hj
      ·cases hj
     have hrun:=run_append_grow (P:=P) w t' ty e' ie z ht hie hie3 a' len cap' (c.toList.take (len*s')) hul huc a ys.length cap vs hvl hvc (by omega) (by omega) (by rw [hie2]; exact growslice_fits (by omega) hb1)
     have hge:len+ys.length<=grownCap w (len+ys.length) cap' e':=grownCap_ge w _ _ _
     have hmx:=zCQ w (old:=cap') (e:=e') hb2
     have hcs:((c.toList.take (len*s')).toArray++vs.toArray++Builtin.zeroCells z.cells (grownCap w (len+ys.length) cap' e' - (len+ys.length))).size=grownCap w (len+ys.length) cap' e'*s':=by
      rw [Array.size_append,Array.size_append,zCR _ _ s' hzc,List.size_toArray,List.size_toArray,hvl',hul,hie1,<-Nat.add_mul,<-Nat.add_mul]
      congr 1; omega
     have htk:((c.toList.take (len*s')).toArray++vs.toArray++Builtin.zeroCells z.cells (grownCap w (len+ys.length) cap' e' - (len+ys.length))).toList.take (cs.take (len*s')++zA0 ys).length=c.toList.take (len*s')++vs:=by
      have:(c.toList.take (len*s')++vs).length=(cs.take (len*s')++zA0 ys).length:=by rw [List.length_append,List.length_append,hul,hie1,hcl,hvr.1]
      rw [Array.toList_append,Array.toList_append,<-this]; exact List.take_left
     obtain ⟨g',k1,k2,k3⟩:=zCN (hS.forget (zCP σ id)).drew (e:=e') hnl hone (c:=(c.toList.take (len*s')).toArray++vs.toArray++Builtin.zeroCells z.cells (grownCap w (len+ys.length) cap' e' - (len+ys.length))) (by rw [htk]; exact hrl.append hvr) hcs hge hmx true (by simp)
     exact ⟨g',_,_,k1,k2,k3,hrun⟩
  ·cases h


theorem zCT (t ty e:TypeId) (i:TypeInfo) (ht:P.underlying t=some (.slice e)) (hi:P.info? e=some i)
  (b o sLen sCap:Nat) (cur:Array Value) (hg:w.heap[b]? = some (.cells cur e (0,0)))
  (a:Addr) (m c:Nat) (news:List Value) (hl:news.length=m*i.size) (hnews:∀ j u,news[j]? = some u->w.cell? (a.add j)=some u) (h1:∀ u∈news,u.oneCell'=true)
  (hroom:sLen+m<=sCap) (hfit:o+sLen*i.size+news.length<=cur.size) :
  (Builtin.append_ #[t,t] ty #[.slice (some ⟨b,o,none⟩) sLen sCap,.slice (some a) m c]).run P w =
   .ok (.slice (some ⟨b,o,none⟩) (sLen+m) sCap) (w.setRow b (cur.toList.take (o+sLen*i.size)++news++cur.toList.drop (o+sLen*i.size+news.length)).toArray):=by
 have hf:=run_firstCells_some (P:=P) w i.size m a m c news hl hnews
 have hst:=run_storeCells_at P b (o+sLen*i.size) e news 0 cur w hg (by simpa using hfit) h1
 simp only [Nat.add_zero] at hst
 simp [Builtin.append_,run_underlying ht,sizeOf,typeInfo,hi,Builtin.lenOf,hroom,hf,Addr.add_lit,hst]

theorem zCU (hS:Sim B w0 g σ w) {ann:Ann} {t t' ty:Nat} {x y r1 r2:AV} {u v:Value} {σ1 σ2:zA6} (hx:RV g x u) (hy:RV g y v) (h:zB8 P σ ann t t' x y = .both r1 σ1 r2 σ2) :
  ∃ g' w' z,g.Le g'/\(Builtin.append_ #[t,t'] ty #[u,v]).run P w = .ok z w'/\((Sim B w0 g' σ1 w'/\RV g' r1 z)\/(Sim B w0 g' σ2 w'/\RV g' r2 z)):=by
 unfold zB8 at h
 split at h
 case h_2=>cases h
 rename_i e he
 have ht:=zBR he
 split at h
 case h_2=>cases h
 rename_i sz by' z k hsz hby hz hk
 split at h
 case h_2=>cases h
 rename_i ys hys
 have hsrc:=zCL hS hy hys
 obtain ⟨ie,hie,hie1⟩:∃ ie,P.info? e=some ie/\ie.size=sz:=by
  unfold szT at hsz
  cases hi:P.info? e with
  | none=>simp [hi] at hsz
  | some i=>simp [hi] at hsz; exact ⟨i,rfl,hsz⟩
 have hie2:ie.bytes=by':=by simpa [byT,hie] using hby
 have hie3:ie.zero=some z:=by simpa [zAB,hie] using hz
 split at h
 ·cases h
 rename_i htt
 have htt':t'=t:=Decidable.byContradiction htt
 subst htt'
 split at h
 ·split at h <;> cases h
 ·rename_i hemp
  have hy0:ys≠[]:=by simpa using hemp
  have hylen:0<ys.length:=List.length_pos_iff.2 hy0
  split at h
  case isFalse=>cases h
  rename_i hpos
  obtain ⟨hpos,hzc⟩:=hpos
  obtain ⟨a,cap,vs,rfl,hvr,hvc,hv1⟩:∃ a cap vs,v = .slice (some a) ys.length cap/\RVL g (zA0 ys) vs/\(∀ j v,vs[j]? = some v->w.cell? (a.add j)=some v)/\(zA0 ys).all AV.one=true:=by
   rcases hsrc.form with rfl | hf
   ·exact absurd (hsrc.nil rfl) hy0
   ·exact hf
  have hvl:vs.length=ys.length*ie.size:=by rw [<-hvr.1,zC5 hsrc.sz,hie1]
  have hvl':vs.length=ys.length*sz:=by rw [hvl,hie1]
  have hv1c:=hvr.one hv1
  split at h
  ·split at h
   ·split at h <;> cases h
   ·cases h
  ·split at h
   ·split at h <;> cases h
   ·cases h
  ·split at h
   ·split at h
    ·split at h <;> cases h
    ·cases h
   ·cases h
  ·rename_i id off len
   split at h
   case h_2 =>
    split at h
    ·split at h
     ·split at h <;> cases h
     ·cases h
    ·cases h
   split at h
   case isFalse=>cases h
   rename_i hc
   obtain ⟨hb1,hb2⟩:=hc
   split at h
   case h_2=>cases h
   rename_i cs e' s' gr ho
   split at h
   case isFalse=>cases h
   rename_i hc2
   obtain ⟨rfl,rfl,hlen⟩:=hc2
   cases h
   obtain ⟨i,c,h1,hs,hB,hh,hlc,hg,hct,hmxt,hr,h1c,hF⟩:=hS.cells ho
   have hmul0:(off+len)*s'=off*s'+len*s':=Nat.add_mul ..
   have hmul:(len+ys.length)*s'=len*s'+ys.length*s':=Nat.add_mul ..
   cases hx with
   | rslice _ _ _ i' a' cap' hi hadr hcap hlen' =>
    rw [hi] at h1; cases h1
    by_cases hroom:len+ys.length<=cap'
    ·-- where it lies
     have ha':a'=⟨i.blk,off*s',none⟩:=by have:=hadr.resolve_right (by omega); rw [hs] at this; exact this
     subst ha'
     have hcl:(cs.take ((off+len)*s')).length=(off+len)*s':=by simp; omega
     have hrl:RVL g (cs.take ((off+len)*s')) (c.toList.take ((off+len)*s')):=by
      have:=hr.take ((off+len)*s')
      rwa [List.take_take,Nat.min_eq_left hlen] at this
     have h1l:(cs.take ((off+len)*s')).all AV.one=true:=by
      rw [List.all_eq_true] at h1c ⊢; exact fun x hx=>h1c x (List.mem_of_mem_take hx)
     have hul:(c.toList.take ((off+len)*s')).length=(off+len)*s':=by rw [<-hrl.1,hcl]
     have hcs':c.size=i.tot*s':=by rw [hct,hs]
     have hfit0:off*s'+len*s'+vs.length<=c.size:=by
      rw [hvl',hcs',<-Nat.add_mul,<-Nat.add_mul]
      exact Nat.mul_le_mul_right _ (by omega)
     have hnl:(cs.take ((off+len)*s')++zA0 ys).length=off*s'+len*s'+vs.length:=by rw [List.length_append,hcl,zC5 hsrc.sz,hmul0,hvl']
     have hone:(cs.take ((off+len)*s')++zA0 ys).all AV.one=true:=by rw [List.all_append,h1l,hv1]; rfl
     have hrun:=zCT (P:=P) (w:=w) t' ty e' ie ht hie i.blk (off*s') len cap' c hh a ys.length cap vs hvl hvc hv1c hroom (by rw [hie1]; exact hfit0)
     rw [hie1] at hrun
     have hc's:(c.toList.take (off*s'+len*s')++vs++c.toList.drop (off*s'+len*s'+vs.length)).toArray.size=c.size:=by simp; omega
     have htk:(c.toList.take (off*s'+len*s')++vs++c.toList.drop (off*s'+len*s'+vs.length)).toArray.toList.take (cs.take ((off+len)*s')++zA0 ys).length=c.toList.take ((off+len)*s')++vs:=by
      have:(c.toList.take (off*s'+len*s')++vs).length=(cs.take ((off+len)*s')++zA0 ys).length:=by rw [hnl,List.length_append,<-hmul0,hul]
      rw [<-this,hmul0]; exact List.take_left
     obtain ⟨k1,k2⟩:=hS.regrow ho hi hh (cs.take ((off+len)*s')++zA0 ys) hc's (by rw [hc's,hnl]; exact hfit0) (by rw [htk]; exact hrl.append hvr) hone
     refine ⟨_,_,_,k1,hrun,.inl ⟨k2,.rslice σ.next off (len+ys.length) i ⟨i.blk,off*s',none⟩ cap' (by simp) (.inl (by rw [hs])) hcap hroom⟩⟩
    ·-- it is moved
     have hcl:((cs.drop (off*s')).take (len*s')).length=len*s':=by simp; omega
     have hrl:RVL g ((cs.drop (off*s')).take (len*s')) ((c.toList.drop (off*s')).take (len*s')):=by
      have:=(hr.drop (off*s')).take (len*s')
      rw [List.drop_take,List.take_take,Nat.min_eq_left (by omega)] at this
      exact this
     have h1l:((cs.drop (off*s')).take (len*s')).all AV.one=true:=by
      rw [List.all_eq_true] at h1c ⊢; exact fun x hx=>h1c x (List.mem_of_mem_drop (List.mem_of_mem_take hx))
     have hul:((c.toList.drop (off*s')).take (len*s')).length=len*ie.size:=by rw [<-hrl.1,hcl,hie1]
     have hnl:((cs.drop (off*s')).take (len*s')++zA0 ys).length=(len+ys.length)*s':=by rw [List.length_append,hcl,zC5 hsrc.sz,hmul]
     have hone:((cs.drop (off*s')).take (len*s')++zA0 ys).all AV.one=true:=by rw [List.all_append,h1l,hv1]; rfl
     have huc:∀ j v,((c.toList.drop (off*s')).take (len*s'))[j]? = some v->w.cell? (a'.add j)=some v:=fun j v hj=>by
      rw [List.getElem?_take] at hj
      split at hj
      ·have hc0:cap'≠0:=by
        intro e0; subst e0
        have:len=0:=by omega
        subst this; omega
       rw [hadr.resolve_right hc0,zBJ,hs]
       rw [List.getElem?_drop] at hj
       simp only [World.cell?,hh,Option.isSome_none,Bool.false_eq_true,if_false]
       simpa using hj
      ·cases hj
     have hrun:=run_append_grow (P:=P) w t' ty e' ie z ht hie hie3 a' len cap' ((c.toList.drop (off*s')).take (len*s')) hul huc a ys.length cap vs hvl hvc (by omega) (by omega) (by rw [hie2]; exact growslice_fits (by omega) hb1)
     have hge:len+ys.length<=grownCap w (len+ys.length) cap' e':=grownCap_ge w _ _ _
     have hmx:=zCQ w (old:=cap') (e:=e') hb2
     have hcs:(((c.toList.drop (off*s')).take (len*s')).toArray++vs.toArray++Builtin.zeroCells z.cells (grownCap w (len+ys.length) cap' e' - (len+ys.length))).size=grownCap w (len+ys.length) cap' e'*s':=by
      rw [Array.size_append,Array.size_append,zCR _ _ s' hzc,List.size_toArray,List.size_toArray,hvl',hul,hie1,<-Nat.add_mul,<-Nat.add_mul]
      congr 1; omega
     have htk:(((c.toList.drop (off*s')).take (len*s')).toArray++vs.toArray++Builtin.zeroCells z.cells (grownCap w (len+ys.length) cap' e' - (len+ys.length))).toList.take ((cs.drop (off*s')).take (len*s')++zA0 ys).length=(c.toList.drop (off*s')).take (len*s')++vs:=by
      have:((c.toList.drop (off*s')).take (len*s')++vs).length=((cs.drop (off*s')).take (len*s')++zA0 ys).length:=by rw [List.length_append,List.length_append,hul,hie1,hcl,hvr.1]
      rw [Array.toList_append,Array.toList_append,<-this]; exact List.take_left
     obtain ⟨g',k1,k2,k3⟩:=zCN (hS.forget (zCP σ id)).drew (e:=e') hnl hone (c:=((c.toList.drop (off*s')).take (len*s')).toArray++vs.toArray++Builtin.zeroCells z.cells (grownCap w (len+ys.length) cap' e' - (len+ys.length))) (by rw [htk]; exact hrl.append hvr) hcs hge hmx true (by simp)
     exact ⟨g',_,_,k1,hrun,.inr ⟨k2,k3⟩⟩
  ·cases h

end
end Go.V
namespace Go.V
open Go.RowKit

section
variable {P:Program} {B:Nat} {w0:World} {g:zA2} {σ:zA6} {w:World}
theorem zCV (hS:Sim B w0 g σ w) {k:Option Nat} {x r:AV} {u:Value} {σ':zA6} (hx:RV g x u) (h:zBB σ k x = .ok r σ') :
  ∃ g',g.Le g'/\Sim B w0 g' σ' w/\RV g' r u:=by
 unfold zBB at h
 split at h
 ·rename_i id len
  split at h
  ·rename_i cs e sz gr ho
   split at h
   ·rename_i hc
    obtain ⟨hk,hpos,hl⟩:=hc
    cases h
    obtain ⟨i,c,h1,hs,hB,hh,hlc,hg,hct,hmx,hr,h1c,hF⟩:=hS.cells ho
    cases hx with
    | rslice _ _ _ i' a cap hi hadr hcap hlen =>
     rw [hi] at h1; cases h1
     have hd:σ.objs id ≠ .dead:=by rw [ho]; simp
     have hcl:(c.toList.take cs.length).length=cs.length:=by simp; omega
     have hle:g.Le (g.frz i.blk (c.toList.take cs.length)):=zA2.le_frz fun o v hv=>by rw [hF] at hv; cases hv
     have hch:=zCI k cs len sz hk (by omega)
     have hfl:zA0 (zAH k cs len)=cs:=by rw [zCJ k cs len sz hk (by omega) h1c,<-hl]; exact List.take_length
     refine ⟨_,hle,hS.turn i.blk (·=id) hle (hS.resO id i hd hi) hB rfl rfl rfl (Nat.le_refl _) (fun _ _ _=>rfl) (fun b o hb=>zA2.frz_F_ne g _ _ hb) ?_ ?_ ?_ ?_ ?_ ?_,?_⟩
     ·intro o v hv
      rw [zA2.frz_F] at hv
      have:=(List.getElem?_eq_some_iff.1 hv).1
      rw [List.getElem?_take] at hv
      split at hv
      ·simp only [World.cell?,hh,Option.isSome_none,Bool.false_eq_true,if_false]
       simpa using hv
      ·cases hv
     ·intro j hj
      exact ⟨by simp [zA6.set,hj],fun hdj pj hpj e=>hS.inj j id pj i hpj hi hdj hd hj e⟩
     ·rintro j rfl
      have:(σ.set j (.tok len e sz)).objs j = .tok len e sz:=by simp [zA6.set]
      rw [this]
      refine ⟨i,c,hi,hs,hB,hh,by omega,hct,hmx,fun o ho => ?_⟩
      rw [zA2.frz_F]
      apply List.getElem?_eq_none
      rw [hcl,hl,<-hs]; exact ho
     ·rintro a b rfl rfl _ _; rfl
     ·rintro j pj rfl _ hpj
      rw [zA2.frz_info,hi] at hpj; cases hpj; rfl
     ·intro j hj
      have hj':σ.next<=j:=hj
      have hne:j≠id:=by have:=hS.live hd; omega
      exact ⟨(hS.next j hj').1,by simp [zA6.set,hne]; exact (hS.next j hj').2⟩
     ·have hcap':cap=i.tot:=by omega
      have:=zCA.rv (g:=g.frz i.blk (c.toList.take cs.length)) (sz:=sz) (xs:=zAH k cs len) (m:=.tok id) (a:=a) (cap:=cap) (vs:=c.toList.take cs.length)
       ⟨zCK k cs len sz hk (by omega) h1c,by rw [hfl]; exact hr.mono hle,fun hp => ?_,fun q hq => ?_,by rw [hfl]; exact h1c,by rw [hch]; omega,⟨i,hi,?_,hcap',hs.symm⟩⟩
      ·rw [hch] at this; exact this
      ·rw [hcl,hl] at hp
       have:cap≠0:=by
        intro e0; subst e0
        have:len=0:=by omega
        subst this; simp at hp
       rw [hadr.resolve_right this]
      ·have hcap0:cap≠0:=by
        intro e0; subst e0
        have:len=0:=by omega
        subst this; rw [hcl,hl] at hq; simp at hq
       rw [hadr.resolve_right hcap0]
       simp only [Nat.zero_mul,Nat.zero_add]
       rw [zA2.frz_F]
       exact List.getElem?_eq_getElem hq
      ·rcases hadr with rfl | h0
       ·left; simp
       ·right; exact h0
   ·cases h
  ·cases h
 ·cases h; exact ⟨g,.refl g,hS,hx⟩
 ·cases h; exact ⟨g,.refl g,hS,hx⟩
 ·cases h

theorem zCW (z:Array Value) (sz:Nat) (hz:z.size=sz) (hpos:0<sz):∀ n,(madeCells z (n*sz)).toList=(List.replicate n z.toList).flatten
 | 0=>by simp [madeCells]
 | n+1=>by
  have ih:=zCW z sz hz hpos n
  rw [List.replicate_succ',List.flatten_append,<-ih]
  simp only [madeCells,Array.toList_map,Array.toList_range,Nat.succ_mul,List.range_add,List.map_append,List.map_map]
  congr 1
  simp only [List.flatten_cons,List.flatten_nil,List.append_nil]
  apply List.ext_getElem?
  intro j
  rw [List.getElem?_map]
  by_cases hj:j<sz
  ·rw [List.getElem?_range hj]
   have hm:(n*sz+j) % z.size=j:=by rw [hz,Nat.add_comm,Nat.add_mul_mod_self_right,Nat.mod_eq_of_lt hj]
   simp only [Option.map_some,Function.comp]
   rw [hm]
   have hj':j<z.size:=by omega
   simp [hj',getElem!_pos]
  ·rw [List.getElem?_eq_none (by simp; omega),List.getElem?_eq_none (by simp; omega)]
   rfl

theorem make_ok (hS:Sim B w0 g σ w) {t:Nat} {l c r:AV} {ul uc:Value} {σ':zA6} (hl:RV g l ul) (hc:RV g c uc) (h:zBC P σ t l c = .ok r σ') :
  ∃ g' w' z,g.Le g'/\Sim B w0 g' σ' w'/\RV g' r z/\(Instr.makeSlice t ul uc).run P w = .ok z w':=by
 unfold zBC at h
 split at h
 case h_2=>cases h
 rename_i e kl l kc c he
 have ht:=zBR he
 split at h
 case h_2=>cases h
 rename_i sz by' z hsz hby hz
 split at h
 case isFalse=>cases h
 rename_i hcnd
 obtain ⟨h0,hlc,hb,hc62,hzl,hzu,hzo,hpos⟩:=hcnd
 cases h
 cases hl; cases hc
 obtain ⟨ie,hie,hie1⟩:∃ ie,P.info? e=some ie/\ie.size=sz:=by
  unfold szT at hsz
  cases hi:P.info? e with
  | none=>simp [hi] at hsz
  | some i=>simp [hi] at hsz; exact ⟨i,rfl,hsz⟩
 have hie2:ie.bytes=by':=by simpa [byT,hie] using hby
 have hie3:ie.zero=some z:=by simpa [zAB,hie] using hz
 have hne:av z ≠ .undef:=by intro e; rw [e] at hzu; simp [AV.isUndef] at hzu
 have hzr:=(zBL g z).cells hne
 have hzs:z.cells.size=sz:=by have:=hzr.1; rw [hzl] at this; simpa using this.symm
 have hrun:=run_make (P:=P) w t e ie z ht hie hie3 kl kc l c h0 hlc (by rw [hie2]; omega) (by omega)
 have hml:=zCW z.cells sz hzs hpos c.toNat
 rw [hie1] at hrun
 have hfl:((List.replicate c.toNat (av z).cells).flatten).length=c.toNat*sz:=by
  rw [List.length_flatten]; simp [hzl]
 have htk:(madeCells z.cells (c.toNat*sz)).toList.take ((List.replicate c.toNat (av z).cells).flatten).length=(List.replicate c.toNat z.cells.toList).flatten:=by
  rw [hfl,hml]
  apply List.take_of_length_le
  rw [List.length_flatten]; simp [hzs]
 have hle:g.Le (g.add σ.next ⟨w.heap.size,c.toNat,sz⟩):=zA2.le_add (hS.next _ (Nat.le_refl _)).1 _
 obtain ⟨h1,h2⟩:=hS.new (.cells (List.replicate c.toNat (av z).cells).flatten e sz false) (.cells (madeCells z.cells (c.toNat*sz)) e) c.toNat sz
  ⟨⟨w.heap.size,c.toNat,sz⟩,madeCells z.cells (c.toNat*sz),by simp,rfl,hS.size,zA8 w _,by rw [hfl,size_madeCells]; exact Nat.le_refl _,fun _=>by rw [hfl,size_madeCells],by rw [size_madeCells],
   (by show c.toNat<=maxLen; unfold maxLen; omega),by rw [htk]; exact (hzr.flatRep _).mono hle,by
    rw [List.all_eq_true] at hzo ⊢
    intro x hx
    obtain ⟨l',hl',hx'⟩:=List.mem_flatten.1 hx
    rw [List.mem_replicate] at hl'
    exact hzo x (hl'.2 ▸ hx'),fun o=>by rw [zA2.add_F]; exact hS.F_new o⟩
 exact ⟨_,_,_,h1,h2,.rslice σ.next 0 l.toNat ⟨w.heap.size,c.toNat,sz⟩ _ c.toNat (by simp) (.inl (by simp)) (by simp) (by omega),hrun⟩

theorem zeros_ok (hS:Sim B w0 g σ w) {t t' ty:Nat} {x r:AV} {l:Int} {k:IntKind} {u:Value} {σ':zA6} (hx:RV g x u) (h:zB9 P σ t t' x l = .ok r σ') :
  ∃ g' w' z,g.Le g'/\Sim B w0 g' σ' w'/\RV g' r z/\(Builtin.append_ #[t,t'] ty #[u,.int k l]).run P w = .ok z w':=by
 unfold zB9 at h
 split at h
 case h_2=>cases h
 rename_i e kn he hkn
 have ht:=zBR he
 split at h
 case h_2=>cases h
 rename_i sz by' z hsz hby hz
 split at h
 case isFalse=>cases h
 rename_i hcnd
 obtain ⟨h0,hb,hc62,hzl,hzu,hzo,hpos⟩:=hcnd
 cases h
 cases hx
 obtain ⟨ie,hie,hie1⟩:∃ ie,P.info? e=some ie/\ie.size=sz:=by
  unfold szT at hsz
  cases hi:P.info? e with
  | none=>simp [hi] at hsz
  | some i=>simp [hi] at hsz; exact ⟨i,rfl,hsz⟩
 have hie2:ie.bytes=by':=by simpa [byT,hie] using hby
 have hie3:ie.zero=some z:=by simpa [zAB,hie] using hz
 obtain ⟨n,rfl⟩:∃ n:Nat,l=n:=⟨l.toNat,by omega⟩
 simp only [Int.toNat_natCast]
 have hne:av z ≠ .undef:=by intro e; rw [e] at hzu; simp [AV.isUndef] at hzu
 have hzr:=(zBL g z).cells hne
 have hzs:z.cells.size=sz:=by have:=hzr.1; rw [hzl] at this; simpa using this.symm
 have hbn:n*ie.bytes<=281474976710656:=by
  rw [hie2,Nat.mul_comm]
  have:((by'*n:Nat):Int)<=140737488355328:=by rw [Int.natCast_mul]; exact hb
  omega
 have hrun:=Lib.run_append_nil_zeros (P:=P) w t t' ty e ie z k kn ht hkn hie hie3 n (by omega) (by omega) (by omega) hbn
 have hge:n<=grownCap w n 0 e:=grownCap_ge w _ _ _
 have hmx:grownCap w n 0 e<=maxLen:=zCQ w (by omega)
 have hzm:Builtin.zeroCells z.cells n=madeCells z.cells (n*sz):=by unfold Builtin.zeroCells madeCells; rw [hzs]
 have hml:=zCW z.cells sz hzs hpos n
 have hfl:((List.replicate n (av z).cells).flatten).length=n*sz:=by
  rw [List.length_flatten]; simp [hzl]
 have hcs:(Builtin.zeroCells z.cells n++Builtin.zeroCells z.cells (grownCap w n 0 e - n)).size=grownCap w n 0 e*sz:=by
  rw [Array.size_append,zCR _ _ sz hzs,zCR _ _ sz hzs,<-Nat.add_mul]
  congr 1; omega
 have htk:(Builtin.zeroCells z.cells n++Builtin.zeroCells z.cells (grownCap w n 0 e - n)).toList.take ((List.replicate n (av z).cells).flatten).length=(List.replicate n z.cells.toList).flatten:=by
  rw [hfl,hzm,Array.toList_append,hml]
  apply List.take_left'
  rw [List.length_flatten]; simp [hzs]
 have hone:(List.replicate n (av z).cells).flatten.all AV.one=true:=by
  rw [List.all_eq_true] at hzo ⊢
  intro x hx
  obtain ⟨l',hl',hx'⟩:=List.mem_flatten.1 hx
  rw [List.mem_replicate] at hl'
  exact hzo x (hl'.2 ▸ hx')
 obtain ⟨g',h1,h2,h3⟩:=zCN hS.drew (e:=e) (cs:=(List.replicate n (av z).cells).flatten) (n:=n) hfl hone (by rw [htk]; exact hzr.flatRep _) hcs hge hmx true (by simp)
 exact ⟨g',_,_,h1,h2,h3,hrun⟩

theorem zCX {place:Nat->Option (Nat×Nat)}:∀ {parts:List (Nat×AV)} {parts':List (Nat×Value)} {cs cs':List AV} {c:Array Value},parts.map (·.1)=parts'.map (·.1)->RVL g (parts.map (·.2)) (parts'.map (·.2)) ->
  RVL g cs c.toList->zAG place cs parts=some cs'->∃ c',Instr.fill place c parts'=some c'/\RVL g cs' c'.toList
 | [],parts',cs,cs',c,h1,h2,h3,h4=>by
  simp only [List.map_nil] at h1
  have:parts'=[]:=by simpa using h1.symm
  subst this
  simp only [zAG] at h4; cases h4
  exact ⟨c,rfl,h3⟩
 | (i,v) :: parts,parts',cs,cs',c,h1,h2,h3,h4=>by
  cases parts' with
  | nil=>simp at h1
  | cons p parts' =>
   obtain ⟨i',u⟩:=p
   simp only [List.map_cons,List.cons.injEq] at h1
   obtain ⟨rfl,h1⟩:=h1
   simp only [List.map_cons] at h2
   obtain ⟨u',us',he,hr,hrs⟩:=h2.cons_inv
   simp only [List.cons.injEq] at he
   obtain ⟨rfl,rfl⟩:=he
   simp only [zAG] at h4
   split at h4
   ·cases h4
   ·rename_i off size hp
    split at h4
    ·rename_i hc
     obtain ⟨hu,hl,hle⟩:=hc
     have hne:v ≠ .undef:=by rintro rfl; simp [AV.isUndef] at hu
     have hcv:=hr.cells hne
     have hus:u.cells.size=size:=by have:=hcv.1; rw [hl] at this; simpa using this.symm
     have hcs:c.size=cs.length:=by simpa using h3.1.symm
     obtain ⟨g1,g2⟩:=Great.foldl_set off u.cells.toList 0 c
     have hfold:(u.cells.zipIdx.foldl (fun cs (x:Value×Nat)=>cs.setIfInBounds (off+x.2) x.1) c).toList=c.toList.take off++u.cells.toList++c.toList.drop (off+u.cells.toList.length):=by
      have e0:u.cells.zipIdx.foldl (fun cs (x:Value×Nat)=>cs.setIfInBounds (off+x.2) x.1) c=(u.cells.toList.zipIdx 0).foldl (fun cs (x:Value×Nat)=>cs.setIfInBounds (off+x.2) x.1) c:=by
       rw [<-Array.foldl_toList,Array.toList_zipIdx]
      rw [e0]
      apply List.ext_getElem?
      intro k
      have:=g2 k
      rw [Array.getElem?_toList,this]
      simp only [Nat.add_zero,Array.length_toList,hus]
      by_cases hk1:k<off
      ·rw [if_neg (by omega),List.append_assoc,List.getElem?_append_left (by simp; omega),List.getElem?_take,if_pos hk1]; simp
      ·by_cases hk2:k<off+size
       ·rw [if_pos (by omega),List.getElem?_append_left (by simp; omega),List.getElem?_append_right (by simp; omega)]
        congr 1
        simp; omega
       ·rw [if_neg (by omega),List.getElem?_append_right (by simp; omega),List.getElem?_drop]
        have:off+size+(k - (c.toList.take off++u.cells.toList).length)=k:=by simp; omega
        rw [this]; simp
     have hsp:=h3.splice hcv off
     obtain ⟨c',k1,k2⟩:=zCX (place:=place) (c:=u.cells.zipIdx.foldl (fun cs (x:Value×Nat)=>cs.setIfInBounds (off+x.2) x.1) c) h1 hrs (by rw [hfold]; exact hsp) h4
     refine ⟨c',?_,k2⟩
     unfold Instr.fill
     simp only [hp]
     rw [if_neg (by simp [hus]; omega)]
     exact k1
    ·cases h4

theorem build_ok {t:Nat} {parts:List (Nat×AV)} {parts':Array (Nat×Value)} {r:AV} (h1:parts.map (·.1)=parts'.toList.map (·.1)) (h2:RVL g (parts.map (·.2)) (parts'.toList.map (·.2)))
  (h:zBD P t parts=some r):∃ z,(Instr.build t parts').run P w = .ok z w/\RV g r z:=by
 unfold zBD at h
 split at h
 case h_2=>cases h
 rename_i z hz
 split at h
 ·cases h
 rename_i hzu
 have hne:av z ≠ .undef:=by intro e; rw [e] at hzu; simp [AV.isUndef] at hzu
 have hzr:=(zBL g z).cells hne
 obtain ⟨it,hit,hiz⟩:∃ it,P.info? t=some it/\it.zero=some z:=by
  unfold zAB at hz
  cases hi:P.info? t with
  | none=>simp [hi] at hz
  | some i=>simp [hi] at hz; exact ⟨i,rfl,hz⟩
 split at h
 ·rename_i places hp
  cases hf:zAG (places[·]?) (av z).cells parts with
  | none=>rw [hf] at h; cases h
  | some cs' =>
   rw [hf] at h; cases h
   obtain ⟨c',k1,k2⟩:=zCX h1 h2 hzr hf
   refine ⟨.agg c',run_build w t parts' c' ?_,.agg' k2⟩
   unfold zAD at hp
   split at hp
   ·rename_i fs hu
    unfold Program.built
    simp only [hit,hu,hiz,hp]
    simpa using k1
   ·cases hp
 ·rename_i n e hp ha
  split at h
  ·rename_i sz hs
   cases hf:zAG (fun i=>some (i*sz,sz)) (av z).cells parts with
   | none=>rw [hf] at h; cases h
   | some cs' =>
    rw [hf] at h; cases h
    obtain ⟨c',k1,k2⟩:=zCX h1 h2 hzr hf
    refine ⟨.agg c',run_build w t parts' c' ?_,.agg' k2⟩
    unfold arrT at ha
    split at ha
    ·rename_i n' e' hu
     cases ha
     unfold szT at hs
     cases hie:P.info? e with
     | none=>simp [hie] at hs
     | some ie =>
      simp [hie] at hs
      unfold Program.built
      simp only [hit,hu,hiz,hie]
      rw [hs]; exact k1
    ·cases ha
  ·cases h
 ·cases h

theorem zCY:∀ (i:Nat) {parts:List (Nat×AV)} {xs:List AV},zBE i parts=some xs->parts=(xs.zipIdx i).map fun x=>(x.2,x.1)
 | i,[],xs,h=>by simp only [zBE] at h; cases h; rfl
 | i,(j,v) :: r,xs,h=>by
  simp only [zBE] at h
  split at h
  ·rename_i hj
   subst hj
   cases hd:zBE (j+1) r with
   | none=>rw [hd] at h; cases h
   | some ys =>
    rw [hd] at h; cases h
    simp [List.zipIdx_cons,zCY (j+1) hd]
  ·cases h

theorem zCZ (hS:Sim B w0 g σ w) {ann:Ann} {t len:Nat} {parts:List (Nat×AV)} {parts':Array (Nat×Value)} {r:AV} {σ':zA6} (h1:parts.map (·.1)=parts'.toList.map (·.1)) (h2:RVL g (parts.map (·.2)) (parts'.toList.map (·.2)))
  (h:zBF P σ ann t len parts = .ok r σ'):∃ g' w' z,g.Le g'/\Sim B w0 g' σ' w'/\RV g' r z/\(Instr.buildSlice t len parts').run P w = .ok z w':=by
 unfold zBF at h
 split at h
 case h_2=>cases h
 rename_i e he
 have ht:=zBR he
 split at h
 case h_2=>cases h
 rename_i sz z xs hsz hz hd
 split at h
 case isFalse=>cases h
 rename_i hc
 obtain ⟨hl,hall,h24,hpos,hzs⟩:=hc
 obtain ⟨ie,hie,hie1⟩:∃ ie,P.info? e=some ie/\ie.size=sz:=by
  unfold szT at hsz
  cases hi:P.info? e with
  | none=>simp [hi] at hsz
  | some i=>simp [hi] at hsz; exact ⟨i,rfl,hsz⟩
 have hie3:ie.zero=some z:=by simpa [zAB,hie] using hz
 have hparts:=zCY 0 hd
 have hxs:parts.map (·.2)=xs:=by rw [hparts]; simp [List.map_map,Function.comp_def]
 rw [hxs] at h2
 have hsz':∀ x∈xs,x.cells.length=sz:=fun x hx=>by
  have:=List.all_eq_true.1 hall x hx
  simp at this; exact this.1
 have hone:(zA0 xs).all AV.one=true:=by
  rw [List.all_eq_true]
  intro c hcm
  obtain ⟨x,hx,hcx⟩:=List.mem_flatMap.1 hcm
  have:=List.all_eq_true.1 hall x hx
  simp only [Bool.and_eq_true] at this
  exact List.all_eq_true.1 this.2 c hcx
 have hparts':parts'.toList=((parts'.toList.map (·.2)).zipIdx 0).map fun x=>(x.2,x.1):=by
  have hi:parts'.toList.map (·.1)=List.range parts'.toList.length:=by
   rw [<-h1,hparts]
   simp only [List.map_map,Function.comp_def]
   have:parts'.toList.length=xs.length:=by
    have:=congrArg List.length h1
    simp only [List.length_map] at this
    rw [<-this,hparts]; simp
   rw [this]
   rw [List.range_eq_range',<-List.zipIdx_map_snd 0 xs]
  apply List.ext_getElem?
  intro k
  rcases Nat.lt_or_ge k parts'.toList.length with hk | hk
  ·have h3:(parts'.toList.map (·.1))[k]? = some k:=by rw [hi,List.getElem?_range hk]
   rw [List.getElem?_map,List.getElem?_eq_getElem hk] at h3
   simp only [Option.map_some,Option.some.injEq] at h3
   rw [List.getElem?_map,List.getElem?_zipIdx,List.getElem?_map,List.getElem?_eq_getElem hk]
   simp only [Option.map_some,Nat.zero_add,Option.some.injEq]
   exact Prod.ext h3 rfl
  ·rw [List.getElem?_eq_none hk,List.getElem?_eq_none (by simpa using hk)]
 -- the parts' cells,side by side
 have hcells:∀ {xs:List AV} {us:List Value},RVL g xs us->(∀ x∈xs,x.cells.length=sz)->(zA0 xs).all AV.one=true->RVL g (zA0 xs) (us.flatMap fun v=>v.cells.toList)/\∀ v∈us,v.cells.size=sz:=by
  intro xs
  induction xs with
  | nil=>intro us h _ _; have:=h.nil_inv; subst this; exact ⟨RVL.nil g,by simp⟩
  | cons x xs ih =>
   intro us h hs ho
   obtain ⟨u,us',rfl,hr,hrs⟩:=h.cons_inv
   rw [zC3,List.all_append,Bool.and_eq_true] at ho
   have hne:x ≠ .undef:=by rintro rfl; simp [AV.cells,AV.one] at ho
   obtain ⟨k1,k2⟩:=ih hrs (fun y hy=>hs y (by simp [hy])) ho.2
   have hcx:=hr.cells hne
   refine ⟨?_,fun v hv => ?_⟩
   ·rw [zC3,List.flatMap_cons]; exact hcx.append k1
   ·rcases List.mem_cons.1 hv with rfl | hv
    ·have:=hcx.1; rw [hs x (by simp)] at this; simpa using this.symm
    ·exact k2 v hv
 obtain ⟨hrv,husz⟩:=hcells h2 hsz' hone
 have hlen':(parts'.toList.map (·.2)).length=len:=by rw [<-h2.1,hl]
 obtain ⟨cells,hrun,hcl⟩:∃ cells:Array Value,(Instr.buildSlice t len parts').run P w = .ok (.slice (some ⟨w.heap.size,0,none⟩) len len) (w.alloc (.cells cells e))/\cells.toList=(parts'.toList.map (·.2)).flatMap fun v=>v.cells.toList:=by
  by_cases h0:len=0
  ·subst h0
   have hnil:parts'.toList=[]:=by
    have:(parts'.toList.map (·.2))=[]:=List.eq_nil_of_length_eq_zero hlen'
    simpa using this
   refine ⟨#[],?_,by rw [hnil]; rfl⟩
   have hp0:parts'=#[]:=by apply Array.ext'; simpa using hnil
   subst hp0
   simp [Instr.buildSlice,run_underlying ht,sizeOf,typeInfo,hie,hie1,Instr.fill,newRow,Array.range_zero']
  ·have hf:=Great.fill_whole hpos (parts'.toList.map (·.2)) ((Array.range (len*ie.size)).map (z.cells[· % z.cells.size]!)) husz (by rw [hlen',hie1]; simp)
   rw [<-hparts'] at hf
   have hne0:¬ len*ie.size=0:=by
    rw [hie1]
    intro e0
    rcases Nat.mul_eq_zero.1 e0 with h | h <;> omega
   rw [<-hie1] at hf
   exact ⟨_,run_buildSlice w t e len parts' _ ie z ht hie hie3 (by rw [hie1]; omega) hne0 hf,by simp⟩
 have hfl:(zA0 xs).length=len*sz:=by rw [zC5 hsz',hl]
 have hcs:cells.size=len*sz:=by
  have h3:=hrv.1
  rw [<-hcl,hfl] at h3
  simpa using h3.symm
 split at h
 ·cases h
  obtain ⟨g',k1,k2,k3⟩:=zCN hS (e:=e) (cs:=zA0 xs) (n:=len) hfl hone (c:=cells) (by rw [hfl,List.take_of_length_le (by simp [hcs]),hcl]; exact hrv) hcs (Nat.le_refl _) (by unfold maxLen; have:=Nat.le_mul_of_pos_right len hpos; omega) false (fun _=>rfl)
  exact ⟨g',_,_,k1,k2,k3,hrun⟩
 ·cases h
  obtain ⟨k1,k2⟩:=hS.newFrozen cells e
  refine ⟨_,_,_,k1,k2,?_,hrun⟩
  rw [<-hl]
  have hrv':RVL g (zA0 xs) cells.toList:=by rw [hcl]; exact hrv
  refine zCA.rv (vs:=cells.toList) ⟨hsz',hrv'.mono k1,fun _=>rfl,fun q hq => ?_,hone,Nat.le_refl _,rfl⟩
  rw [zA2.frz_F,Nat.zero_add]
  exact List.getElem?_eq_getElem hq

end
end Go.V
namespace Go.V
open Go.RowKit

section
variable {P:Program} {B:Nat} {w0:World} {g:zA2} {σ:zA6} {w:World}
def RVM (g:zA2) (es:List (AV×AV)) (ms:List MapEntry):Prop:=es.length=ms.length/\∀ k (h:k<es.length) (h':k<ms.length),RV g (es[k]).1 (ms[k]).key/\RV g (es[k]).2 (ms[k]).val

theorem RVM.cons_inv {g:zA2} {e:AV×AV} {es:List (AV×AV)} {ms:List MapEntry} (h:RVM g (e :: es) ms):∃ m ms',ms=m :: ms'/\RV g e.1 m.key/\RV g e.2 m.val/\RVM g es ms':=by
 obtain ⟨hl,hr⟩:=h
 cases ms with
 | nil=>simp at hl
 | cons m ms =>
  obtain ⟨h1,h2⟩:=hr 0 (by simp) (by simp)
  exact ⟨m,ms,rfl,h1,h2,by simpa using hl,fun k a b=>hr (k+1) (by simpa using a) (by simpa using b)⟩

theorem zD0 {k:Nat} {d:TypeDesc} (hd:P.underlying k=some d) {key:AV} {kv:Value} (hk:RV g key kv) (hs:zAX P k key=true) (hnd:∀ fs,d ≠ .struct fs) :
  ∀ (es:List (AV×AV)) (ms:List MapEntry) (i:Nat) (r:Option (Nat×AV)),RVM g es ms->zAW P k key es i=some r ->
   ∃ r',Instr.findNow d kv ms i=some r'/\((r=none/\r'=none)\/∃ j v u,r=some (j,v)/\r'=some (j,u)/\RV g v u/\i<=j/\j<i+es.length):=by
 intro es
 induction es with
 | nil =>
  intro ms i r h ha
  have:ms=[]:=by have:=h.1; cases ms with | nil=>rfl | cons=>simp at this
  subst this
  simp only [zAW] at ha; cases ha
  exact ⟨none,rfl,.inl ⟨rfl,rfl⟩⟩
 | cons e es ih =>
  intro ms i r h ha
  obtain ⟨m,ms',rfl,h1,h2,h3⟩:=h.cons_inv
  simp only [zAW] at ha
  have key1:∀ b,aeq P k key e.1=some b->Instr.sameNow d kv m.key=some b:=by
   intro b hb
   have hb1:aeq1 P k key e.1=some b:=by
    unfold aeq at hb
    split at hb
    ·rename_i xs ys hx
     unfold zAX at hs
     rw [hd] at hs
     cases d <;> first | (exact absurd rfl (hnd _)) | (simp at hs; done)
    ·exact hb
   unfold aeq1 at hb1
   rw [hd] at hb1
   generalize hq:e.1=q at h1 hb1
   generalize hmk:m.key=mk at h1 ⊢
   split at hb1
   ·rename_i hd'
    cases hd'
    split at hb1
    ·rename_i hk'
     subst hk'
     cases hb1; cases hk; cases h1
     simp [Instr.sameNow]
    ·cases hb1
   ·rename_i hd'
    cases hd'
    cases hb1; cases hk; cases h1
    simp only [Instr.sameNow]
    rw [beq_toListBytes,zBX]
   ·rename_i hd'
    cases hd'
    cases hb1; cases hk; cases h1
    simp [Instr.sameNow]
   ·cases hb1
  split at ha
  ·rename_i he
   cases ha
   refine ⟨some (i,m.val),by simp only [Instr.findNow,key1 _ he],.inr ⟨i,_,_,rfl,rfl,h2,Nat.le_refl _,by simp⟩⟩
  ·rename_i he
   obtain ⟨r',h4,h5⟩:=ih ms' (i+1) r h3 ha
   refine ⟨r',by simp only [Instr.findNow,key1 _ he]; exact h4,?_⟩
   rcases h5 with h5 | ⟨j,v,u,a,b,c,d,e⟩
   ·exact .inl h5
   ·exact .inr ⟨j,v,u,a,b,c,by omega,by simp; omega⟩
  ·cases ha

theorem zD1 {k:Nat} {key:AV} {kv:Value} (hk:RV g key kv) :
  ∀ (es:List (AV×AV)) (ms:List MapEntry) (i:Nat) (r:Option (Nat×AV)),RVM g es ms->zAW P k key es i=some r ->
   ∃ r',(Instr.findAsking k kv ms i).run P w = .ok r' w/\((r=none/\r'=none)\/∃ j v u,r=some (j,v)/\r'=some (j,u)/\RV g v u/\i<=j/\j<i+es.length):=by
 intro es
 induction es with
 | nil =>
  intro ms i r h ha
  have:ms=[]:=by have:=h.1; cases ms with | nil=>rfl | cons=>simp at this
  subst this
  simp only [zAW] at ha; cases ha
  exact ⟨none,rfl,.inl ⟨rfl,rfl⟩⟩
 | cons e es ih =>
  intro ms i r h ha
  obtain ⟨m,ms',rfl,h1,h2,h3⟩:=h.cons_inv
  simp only [zAW] at ha
  have key1:∀ b,aeq P k key e.1=some b->(Op.equal k kv m.key).run P w = .ok b w:=fun b hb=>eq_ok (d:=9998) hk h1 hb
  split at ha
  ·rename_i he
   cases ha
   refine ⟨some (i,m.val),by simp only [Instr.findAsking,Sem.run_bind,key1 _ he,Result.andThen_ok,if_true,Sem.run_pure],.inr ⟨i,_,_,rfl,rfl,h2,Nat.le_refl _,by simp⟩⟩
  ·rename_i he
   obtain ⟨r',h4,h5⟩:=ih ms' (i+1) r h3 ha
   refine ⟨r',by simp only [Instr.findAsking,Sem.run_bind,key1 _ he,Result.andThen_ok,Bool.false_eq_true,if_false]; exact h4,?_⟩
   rcases h5 with h5 | ⟨j,v,u,a,b,c,d,e⟩
   ·exact .inl h5
   ·exact .inr ⟨j,v,u,a,b,c,by omega,by simp; omega⟩
  ·cases ha

theorem zD2 {e:Bool} {n:Nat} {cs:List AV} {vs:Array Value} (hr:RVL g cs vs.toList):∀ (fs:List Field),
  (fs.all fun f => f.name != "_" && match P.underlying f.type, zAE P f.type cs f.offset with
   | some (.int _),some (.int _ _)=>true
   | some .string,some (.str _)=>true
   | some .bool,some (.bool _)=>true
   | _,_=>false)=true ->
  (forIn fs PUnit.unit fun f (_ : PUnit) => (do if f.name ≠ "_" then Instr.checkKey e (n + 1) f.type (<-part f.type vs f.offset)
                                                 pure (ForInStep.yield PUnit.unit):Sem (ForInStep PUnit))).run P w = .ok PUnit.unit w
 | [],_=>rfl
 | f :: fs,h=>by
  simp only [List.all_cons,Bool.and_eq_true] at h
  obtain ⟨⟨hn,hf⟩,hfs⟩:=h
  have hn' : f.name ≠ "_" := by simpa using hn
  have ih:=zD2 (e:=e) (n:=n) hr fs hfs
  have hck:∃ u,(part f.type vs f.offset).run P w = .ok u w/\(Instr.checkKey e (n+1) f.type u).run P w = .ok () w:=by
   split at hf
   ·rename_i hu ha
    obtain ⟨u,h1,h2⟩:=zBT ha hr w
    cases h2
    exact ⟨_,h1,by simp only [Instr.checkKey,Sem.run_bind,run_underlying hu,Result.andThen_ok]; rfl⟩
   ·rename_i hu ha
    obtain ⟨u,h1,h2⟩:=zBT ha hr w
    cases h2
    exact ⟨_,h1,by simp only [Instr.checkKey,Sem.run_bind,run_underlying hu,Result.andThen_ok]; rfl⟩
   ·rename_i hu ha
    obtain ⟨u,h1,h2⟩:=zBT ha hr w
    cases h2
    exact ⟨_,h1,by simp only [Instr.checkKey,Sem.run_bind,run_underlying hu,Result.andThen_ok]; rfl⟩
   ·cases hf
  obtain ⟨u,h1,h2⟩:=hck
  simp only [List.forIn_cons,Sem.run_bind,if_pos hn',h1,h2,Result.andThen_ok,Sem.run_pure]
  exact ih

theorem zD3 {e:Bool} {n k:Nat} {key:AV} {kv:Value} (hk:RV g key kv) (hs:zAX P k key=true):(Instr.checkKey e (n+2) k kv).run P w = .ok () w:=by
 unfold zAX at hs
 split at hs
 ·rename_i hu; cases hk
  simp only [Instr.checkKey,Sem.run_bind,run_underlying hu,Result.andThen_ok]; rfl
 ·rename_i hu; cases hk
  simp only [Instr.checkKey,Sem.run_bind,run_underlying hu,Result.andThen_ok]; rfl
 ·rename_i hu; cases hk
  simp only [Instr.checkKey,Sem.run_bind,run_underlying hu,Result.andThen_ok]; rfl
 ·rename_i fs cs hu
  obtain ⟨vs,rfl,hv⟩:=hk.agg_inv
  rw [Bool.and_eq_true] at hs
  have:=zD2 (P:=P) (w:=w) (e:=e) (n:=n) hv fs.toList hs.2
  rw [Instr.checkKey]
  simp only [Sem.run_bind,run_underlying hu,Result.andThen_ok]
  rw [<-Array.forIn_toList]
  simp only [Sem.run_bind] at this
  rw [this]
  rfl
 ·cases hs

theorem zD4 {k:Nat} {key:AV} {kv:Value} (hk:RV g key kv) (hs:zAX P k key=true) {es:List (AV×AV)} {ms:List MapEntry} {r:Option (Nat×AV)} (h:RVM g es ms) (ha:zAW P k key es 0=some r) :
  ∃ r',(Instr.findKey k kv ms).run P w = .ok r' w/\((r=none/\r'=none)\/∃ j v u,r=some (j,v)/\r'=some (j,u)/\RV g v u/\j<es.length):=by
 cases hd:P.underlying k with
 | none=>unfold zAX at hs; rw [hd] at hs; simp at hs
 | some d =>
  by_cases hst:∃ fs,d = .struct fs
  ·obtain ⟨fs,rfl⟩:=hst
   obtain ⟨r',h1,h2⟩:=zD1 (P:=P) (w:=w) (k:=k) hk es ms 0 r h ha
   refine ⟨r',?_,?_⟩
   ·simp only [Instr.findKey,Sem.run_bind,run_underlying hd,Result.andThen_ok]
    cases ms with
    | nil =>
     simp only [Instr.findAsking,Sem.run_pure] at h1
     simp only [Instr.findNow]
     exact h1
    | cons m ms' =>
     have:Instr.findNow (.struct fs) kv (m :: ms') 0=none:=by
      simp only [Instr.findNow]
      have:Instr.sameNow (.struct fs) kv m.key=none:=by unfold Instr.sameNow; rfl
      rw [this]
     rw [this]
     exact h1
   ·rcases h2 with h2 | ⟨j,v,u,a,b,c,_,e⟩
    ·exact .inl h2
    ·exact .inr ⟨j,v,u,a,b,c,by omega⟩
  ·obtain ⟨r',h1,h2⟩:=zD0 hd hk hs (fun fs e=>hst ⟨fs,e⟩) es ms 0 r h ha
   refine ⟨r',?_,?_⟩
   ·simp only [Instr.findKey,Sem.run_bind,run_underlying hd,Result.andThen_ok,h1,Sem.run_pure]
   ·rcases h2 with h2 | ⟨j,v,u,a,b,c,_,e⟩
    ·exact .inl h2
    ·exact .inr ⟨j,v,u,a,b,c,by omega⟩

theorem Sim.map (hS:Sim B w0 g σ w) {id:Nat} {es:List (AV×AV)} (ho:σ.objs id = .map es):∃ i ms clock,g.info id=some i/\B<=i.blk/\w.heap[i.blk]? = some (.map ms clock)/\RVM g es ms.toList:=by
 have:=hS.objs id
 rw [ho] at this
 obtain ⟨i,ms,cl,h1,h2,h3,h4,h5⟩:=this
 exact ⟨i,ms,cl,h1,h2,h3,by simpa using h4,fun k a b=>by simpa using h5 k a (by simpa using b)⟩

theorem zD5 {t k e:Nat} (h:zAY P t=some (k,e)):P.underlying t=some (.map k e):=by
 unfold zAY at h
 split at h
 ·rename_i k' e' hu; cases h; exact hu
 ·cases h

theorem zD6 {e:Nat} {z:Value} (h:zAB P e=some z) (w:World):(zeroValue e).run P w = .ok z w:=by
 unfold zAB at h
 cases hi:P.info? e with
 | none=>simp [hi] at h
 | some i=>simp [hi] at h; simp [zeroValue,typeInfo,hi,h]

theorem mapOf_ok (hS:Sim B w0 g σ w) {x:AV} {u:Value} (hx:RV g x u) {es:List (AV×AV)} (h:zAZ σ x=some es) :
  ∃ ms:Array MapEntry,RVM g es ms.toList/\((u = .map none/\ms=#[])\/∃ b clock,u = .map (some b)/\w.heap[b]? = some (.map ms clock)):=by
 unfold zAZ at h
 split at h
 ·cases h; cases hx
  exact ⟨#[],⟨rfl,fun k h=>by simp at h⟩,.inl ⟨rfl,rfl⟩⟩
 ·rename_i id
  split at h
  ·rename_i es ho
   cases h
   cases hx with
   | map _ i hi =>
    obtain ⟨i',ms,cl,h1,h2,h3,h4⟩:=hS.map ho
    rw [hi] at h1; cases h1
    exact ⟨ms,h4,.inr ⟨_,cl,rfl,h3⟩⟩
  ·cases h
 ·cases h

theorem zD7 (hS:Sim B w0 g σ w) {t:Nat} {x key r:AV} {ok:Bool} {u kv:Value} (hx:RV g x u) (hk:RV g key kv) (h:zB0 P σ t x key ok=some r):∃ z,(Instr.lookup t u kv ok).run P w = .ok z w/\RV g r z:=by
 unfold zB0 at h
 split at h
 case h_2=>cases h
 rename_i k e hm
 have hu:=zD5 hm
 split at h
 case isFalse=>cases h
 rename_i hs
 split at h
 case h_2=>cases h
 rename_i es hes
 obtain ⟨ms,hrm,hrun⟩:=mapOf_ok hS hx hes
 have hck:(Instr.checkKey ms.isEmpty 10000 k kv).run P w = .ok () w:=zD3 (n:=9998) hk hs
 split at h
 ·rename_i j v hak
  cases h
  obtain ⟨r',hf,hr'⟩:=zD4 (P:=P) (w:=w) hk hs hrm hak
  rcases hr' with ⟨h0,_⟩ | ⟨j',v',uv,he,rfl,hv,_⟩
  ·cases h0
  ·cases he
   refine ⟨if ok then .tuple #[uv,.bool true] else uv,?_,?_⟩
   ·rcases hrun with ⟨rfl,rfl⟩ | ⟨b,cl,rfl,hb⟩
    ·simp only [Instr.lookup,Sem.run_bind,run_underlying hu,Result.andThen_ok,Sem.run_pure,hck,hf]
    ·simp only [Instr.lookup,Sem.run_bind,run_underlying hu,Result.andThen_ok,Sem.run_pure,getObj,Sem.run,hb,hck,hf]
   ·cases ok
    ·exact hv
    ·exact .tuple' (.cons hv (.cons (.bool _) (.nil g)))
 ·rename_i hak
  obtain ⟨r',hf,hr'⟩:=zD4 (P:=P) (w:=w) hk hs hrm hak
  rcases hr' with ⟨_,rfl⟩ | ⟨j',v',uv,he,_⟩
  ·split at h
   ·rename_i z hz
    cases h
    refine ⟨if ok then .tuple #[z,.bool false] else z,?_,?_⟩
    ·rcases hrun with ⟨rfl,rfl⟩ | ⟨b,cl,rfl,hb⟩
     ·simp only [Instr.lookup,Sem.run_bind,run_underlying hu,Result.andThen_ok,Sem.run_pure,hck,hf,zD6 hz w]
     ·simp only [Instr.lookup,Sem.run_bind,run_underlying hu,Result.andThen_ok,Sem.run_pure,getObj,Sem.run,hb,hck,hf,zD6 hz w]
    ·cases ok
     ·exact zBL g z
     ·exact .tuple' (.cons (zBL g z) (.cons (.bool _) (.nil g)))
   ·cases h
  ·cases he
 ·cases h

theorem zD8 {t:Nat} {x y:AV} (h:aeq1 P t x y=some true):x=y:=by
 unfold aeq1 at h
 split at h
 ·split at h
  ·rename_i hk; subst hk; simp at h; rw [h]
  ·cases h
 ·simp [zAI] at h
  congr 1
  cases ‹ByteArray›; cases ‹ByteArray›
  simp at h
  rw [h]
 ·simp at h; rw [h]
 ·cases h

theorem zD9 {xs ys : List AV} : ∀ {fs : List Field}, (fs.all fun f => f.name != "_") = true -> (∀ f ∈ fs, zAC P f.type = some none) -> aeqF P xs ys fs = some true -> ∀ f ∈ fs, ∃ v, xs[f.offset]? = some v /\ ys[f.offset]? = some v
 | [],_,_,_=>by simp
 | f :: fs,hn,hk,h=>by
  simp only [List.all_cons,Bool.and_eq_true] at hn
  have hn' : f.name ≠ "_" := by simpa using hn.1
  simp only [aeqF,if_pos hn'] at h
  split at h
  ·rename_i x y hx hy
   split at h
   ·rename_i p q hp hq
    simp only [Option.some.injEq,Bool.and_eq_true] at h
    obtain ⟨rfl,rfl⟩:=h
    have e:=zD8 hp
    subst e
    have hkf:=hk f (by simp)
    simp only [zAE,hkf] at hx hy
    intro f' hf'
    rcases List.mem_cons.1 hf' with rfl | hf'
    ·exact ⟨x,hx,hy⟩
    ·exact zD9 hn.2 (fun f hf=>hk f (by simp [hf])) hq f' hf'
   ·cases h
  ·cases h

theorem zDA {k:Nat} {x y:AV} (hs:zAX P k x=true) (h:aeq P k x y=some true):x=y:=by
 unfold aeq at h
 split at h
 ·rename_i xs ys
  split at h
  ·rename_i hc
   obtain ⟨_,hk,_,hlen⟩:=hc
   unfold zAX at hs
   split at hs <;> try (rename_i h1; cases h1; done)
   ·rename_i fs cs hu he
    cases he
    simp only [Bool.and_eq_true,beq_iff_eq] at hs
    obtain ⟨hoff,hall⟩:=hs
    have hfl:flds P k=fs.toList:=by simp [flds,Program.fieldsOf,hu]
    rw [hfl] at h
    have hall':=List.all_eq_true.1 hall
    have hsame:=zD9 (P:=P) (xs:=xs) (ys:=ys) (fs:=fs.toList) (List.all_eq_true.2 fun f hf=>by have:=hall' f hf; simp only [Bool.and_eq_true] at this; exact this.1)
     (fun f hf=>by
      have:=hall' f hf
      simp only [Bool.and_eq_true] at this
      have h2:=this.2
      unfold zAC
      split at h2 <;> first | (rename_i hu' _; rw [hu']) | cases h2) h
    congr 1
    apply List.ext_getElem?
    intro i
    rcases Nat.lt_or_ge i xs.length with hi | hi
    ·have:i∈fs.toList.map (·.offset):=by rw [hoff]; exact List.mem_range.2 hi
     obtain ⟨f,hf,rfl⟩:=List.mem_map.1 this
     obtain ⟨v,h1,h2⟩:=hsame f hf
     rw [h1,h2]
    ·rw [List.getElem?_eq_none hi,List.getElem?_eq_none (by omega)]
   ·cases hs
  ·cases h
 ·exact zD8 h

theorem zDB {k:Nat} {key:AV}:∀ {es:List (AV×AV)} {i j:Nat} {v:AV},zAW P k key es i=some (some (j,v))->∃ n e,j=i+n/\es[n]? = some e/\aeq P k key e.1=some true/\e.2=v
 | [],i,j,v,h=>by simp [zAW] at h
 | e :: es,i,j,v,h=>by
  simp only [zAW] at h
  split at h
  ·rename_i he; cases h; exact ⟨0,e,rfl,rfl,he,rfl⟩
  ·obtain ⟨n,e',h1,h2,h3,h4⟩:=zDB h
   exact ⟨n+1,e',by omega,by simpa using h2,h3,h4⟩
  ·cases h

theorem zDC (old new:Value) (w:World):∃ k w',(Instr.keyThatStays old new).run P w = .ok k w'/\(k=old\/k=new)/\(w'=w\/w'=w.drew):=by
 unfold Instr.keyThatStays
 split
 ·exact ⟨new,w,rfl,.inr rfl,.inl rfl⟩
 ·simp only [Sem.run_bind,run_choose]
  simp only [Question.forced,Bool.decide_eq_true,Nat.reduceEqDiff,decide_false,Bool.false_eq_true,if_false,Result.andThen_ok,Sem.run_pure]
  refine ⟨_,w.drew,rfl,?_,.inr rfl⟩
  split
  ·exact .inr rfl
  ·exact .inl rfl

theorem zDD (hS:Sim B w0 g σ w) {t:Nat} {x key v r:AV} {u kv vv:Value} {σ':zA6} (hx:RV g x u) (hk:RV g key kv) (hv:RV g v vv) (h:zB6 P σ t x key v = .ok r σ') :
  ∃ w',(Instr.mapUpdate t u kv vv).run P w = .ok () w'/\Sim B w0 g σ' w'/\r = .undef:=by
 unfold zB6 at h
 split at h
 case h_2=>cases h
 rename_i k e id hm
 have hu:=zD5 hm
 split at h
 case isFalse=>cases h
 rename_i hs
 split at h
 case h_2=>cases h
 rename_i es ho
 split at h
 case h_2=>cases h
 rename_i r0 hak
 cases h
 cases hx with
 | map _ i hi =>
  obtain ⟨i',ms,cl,h1,hB,hh,hrm⟩:=hS.map ho
  rw [hi] at h1; cases h1
  have hd:σ.objs id ≠ .dead:=by rw [ho]; simp
  have hF:∀ o,g.F i.blk o=none:=fun o=>by
   cases hf:g.F i.blk o with
   | none=>rfl
   | some v=>have:=hS.froz _ _ _ hf; simp [World.cell?,hh] at this
  have hck:(Instr.checkKey false 10000 k kv).run P w = .ok () w:=zD3 (n:=9998) hk hs
  obtain ⟨r',hf,hr'⟩:=zD4 (P:=P) (w:=w) hk hs hrm hak
  have hlt:i.blk<w.heap.size:=(Array.getElem?_eq_some_iff.1 hh).1
  have put:∀ (w1:World) (o:Obj),(w1=w\/w1=w.drew)->(setObj i.blk o).run P w1 = .ok () { w1 with heap:=w1.heap.setIfInBounds i.blk o }:=by
   rintro w1 o (rfl | rfl)
   ·simp [setObj,Sem.run,hh]
   ·have:w.drew.heap[i.blk]? = some (.map ms cl):=hh
    simp [setObj,Sem.run,this]
  have step:∀ (w1:World) (ms':Array MapEntry) (cl':Nat) (es':List (AV×AV)),(w1=w\/w1=w.drew)->RVM g es' ms'.toList->Sim B w0 g (σ.set id (.map es')) { w1 with heap:=w1.heap.setIfInBounds i.blk (.map ms' cl') }:=by
   intro w1 ms' cl' es' hw1 hr
   have hS1:Sim B w0 g σ w1:=by rcases hw1 with rfl | rfl; exact hS; exact hS.drew
   have hh1:w1.heap=w.heap:=by rcases hw1 with rfl | rfl <;> rfl
   refine hS1.write (w':={ w1 with heap:=w1.heap.setIfInBounds i.blk (.map ms' cl') }) hi hd hF rfl rfl rfl (by simp) (fun b hb => ?_) _ ?_
   ·show (w1.heap.setIfInBounds i.blk _)[b]? = _
    rw [Array.getElem?_setIfInBounds_ne (Ne.symm hb)]
   ·refine ⟨i,ms',cl',hi,hB,?_,by simpa using hr.1,fun q a b=>by have:=hr.2 q a (by simpa using b); rw [Array.getElem_toList] at this; exact this⟩
    show (w1.heap.setIfInBounds i.blk _)[i.blk]? = _
    rw [hh1]
    simp [hlt]
  rcases hr' with ⟨rfl,rfl⟩ | ⟨j,v',uv,rfl,rfl,_,hj⟩
  ·refine ⟨_,?_,step w (ms.push { key:=kv,val:=vv,born:=cl }) (cl+1) _ (.inl rfl) ?_,rfl⟩
   ·simp only [Instr.mapUpdate,Sem.run_bind,run_underlying hu,Result.andThen_ok,Sem.run_pure,getObj,Sem.run,hh,hck,hf]
    exact put w _ (.inl rfl)
   ·simp only [zB5]
    refine ⟨by simp [hrm.1],fun q a b => ?_⟩
    rcases Nat.lt_or_ge q es.length with hq | hq
    ·have hq':q<ms.toList.length:=by rw [<-hrm.1]; exact hq
     have:=hrm.2 q hq hq'
     simp only [Array.toList_push]
     rw [List.getElem_append_left hq,List.getElem_append_left hq']
     exact this
    ·have e1:q=es.length:=by simp at a; omega
     subst e1
     have e2:es.length=ms.toList.length:=hrm.1
     simp only [Array.toList_push]
     rw [List.getElem_append_right (Nat.le_refl _),List.getElem_append_right (by omega)]
     simp only [Nat.sub_self,List.getElem_cons_zero,e2]
     exact ⟨hk,hv⟩
  ·obtain ⟨n,e0,hjn,hen,heq,hev⟩:=zDB hak
   simp only [Nat.zero_add] at hjn
   subst hjn
   have hsame:=zDA hs heq
   have hn':j<ms.size:=by have:=hrm.1; simp at this; omega
   have hnl:j<ms.toList.length:=by simpa using hn'
   have hold:RV g key (ms[j]).key:=by
    have h2:=(hrm.2 j hj hnl).1
    have h3:es[j]=e0:=(List.getElem?_eq_some_iff.1 hen).2
    rw [h3,<-hsame] at h2
    simpa using h2
   have hgetk:((ms[j]?).map (·.key)).getD kv=(ms[j]).key:=by simp [hn']
   obtain ⟨kk,w1,hrun,hkk,hw1⟩:=zDC (P:=P) (ms[j]).key kv w
   refine ⟨_,?_,step w1 (ms.modify j fun e=>{ e with key:=kk,val:=vv }) cl _ hw1 ?_,rfl⟩
   ·simp only [Instr.mapUpdate,Sem.run_bind,run_underlying hu,Result.andThen_ok,Sem.run_pure,getObj,Sem.run,hh,hck,hf,hgetk,hrun]
    exact put w1 _ hw1
   ·simp only [zB5]
    refine ⟨by simp [hrm.1],fun q a b => ?_⟩
    have hq:q<es.length:=by simpa using a
    have hq':q<ms.toList.length:=by rw [<-hrm.1]; exact hq
    have h2:=hrm.2 q hq hq'
    simp only [Array.toList_modify,List.getElem_set,List.getElem_modify]
    by_cases hqn:j=q
    ·subst hqn
     simp only [if_true]
     refine ⟨?_,hv⟩
     rcases hkk with rfl | rfl
     ·exact hold
     ·exact hk
    ·simp only [hqn,if_false]
     exact h2

theorem zDE {mx:Bool} {x y r:AV} {u v:Value} (hx:RV g x u) (hy:RV g y v) (h:amin2 mx x y=some r):(if mx then Builtin.max2 u v else Builtin.min2 u v).run P w = .ok (match r with | .int k n => .int k n | _=>undef) w/\RV g r (match r with | .int k n => .int k n | _=>undef):=by
 unfold amin2 at h
 split at h
 ·cases h; cases hx; cases hy
  cases mx <;> exact ⟨rfl,.int _ _⟩
 ·cases h

theorem zDF {f:Nat} (h:zBG P f=true) (vs:Array Value) (w:World):(callFunc f vs).run P w = .ok (.enter f vs) w:=by
 unfold zBG at h
 cases hf:P.funcs[f]? with
 | none=>simp [hf] at h
 | some fn =>
  simp only [hf,Bool.and_eq_true,Bool.not_eq_true',beq_eq_false_iff_ne,ne_eq] at h
  have h1:fn.body.isNone=false:=by cases hb:fn.body with | none=>simp [hb] at h | some c=>rfl
  have h2 : (fn.name == "runtime.NumGoroutine") = false := by simpa using h.2
  simp only [callFunc,Sem.run_bind,run_program,Result.andThen_ok,hf,h2,Bool.false_eq_true,if_false,h1,Sem.run_pure]
end

theorem zDG {P:Program} {k:Nat} {key:AV} {es es':List (AV×AV)} (hp:es.Perm es'):∀ r,zB2 P k key es=some r->∃ r',zB2 P k key es'=some r'/\r.Perm r':=by
 induction hp with
 | nil=>intro r h; exact ⟨r,h,.refl r⟩
 | cons x _ ih =>
  intro r h
  simp only [zB2] at h ⊢
  split at h
  ·rename_i h1 h2; cases h; obtain ⟨r',h3,h4⟩:=ih _ h2; exact ⟨_,by rw [h1,h3],h4.cons _⟩
  ·rename_i h1 h2; cases h; obtain ⟨r',h3,h4⟩:=ih _ h2; exact ⟨_,by rw [h1,h3],h4⟩
  ·cases h
 | swap x y l =>
  intro r h
  simp only [zB2] at h ⊢
  cases h1:aeq P k key x.1 with
  | none=>rw [h1] at h; cases h2:aeq P k key y.1 with
   | none=>rw [h2] at h; simp at h
   | some b=>rw [h2] at h; cases b <;> simp at h
  | some b1 =>
   cases h2:aeq P k key y.1 with
   | none=>rw [h2] at h; simp at h
   | some b2 =>
    rw [h1,h2] at h
    cases h3:zB2 P k key l with
    | none=>rw [h3] at h; cases b1 <;> cases b2 <;> simp at h
    | some r0 =>
     rw [h3] at h
     cases b1 <;> cases b2 <;> simp at h <;> subst h <;> simp <;> exact List.Perm.swap _ _ _
 | trans _ _ ih1 ih2 =>
  intro r h
  obtain ⟨r1,h1,h2⟩:=ih1 r h
  obtain ⟨r2,h3,h4⟩:=ih2 r1 h1
  exact ⟨r2,h3,h2.trans h4⟩

theorem zDH {P:Program} {k:Nat} {key:AV}:∀ (es:List (AV×AV)) (i:Nat),(zB2 P k key es=some []->zAW P k key es i=some none)/\(∀ v,zB2 P k key es=some [v]->∃ j,zAW P k key es i=some (some (j,v)))
 | [],i=>⟨fun _=>rfl,fun v h=>by simp [zB2] at h⟩
 | e :: es,i=>by
  have ih:=zDH (P:=P) (k:=k) (key:=key) es (i+1)
  constructor
  ·intro h
   simp only [zB2] at h
   split at h
   ·cases h
   ·rename_i h1 h2; cases h; simp only [zAW,h1]; exact ih.1 h2
   ·cases h
  ·intro v h
   simp only [zB2] at h
   split at h
   ·rename_i h1 h2; cases h; simp only [zAW,h1]; exact ⟨i,rfl⟩
   ·rename_i h1 h2; cases h; simp only [zAW,h1]; exact ih.2 v h2
   ·cases h

theorem look_ok {P:Program} {B:Nat} {w0:World} {g:zA2} {σ:zA6} {w:World} (hS:Sim B w0 g σ w) {t:Nat} {x key r:AV} {ok:Bool} {u kv:Value} (hx:RV g x u) (hk:RV g key kv) (h:zB4 P σ t x key ok=some r):∃ z,(Instr.lookup t u kv ok).run P w = .ok z w/\RV g r z:=by
 unfold zB4 at h
 split at h
 ·rename_i id es hm
  unfold zB1 at hm
  split at hm
  ·rename_i id'
   split at hm
   ·rename_i es' ho
    cases hm
    have hob:=hS.objs id
    rw [ho] at hob
    obtain ⟨i,ms,cl,l,h1,h2,h3,h4,h5,h6⟩:=hob
    have hS':=hS.retell (o':=.map l) (by rw [ho]; simp) ⟨i,ms,cl,h1,h2,h3,h4,h5⟩
    refine zD7 hS' hx hk ?_
    unfold zB3 at h
    unfold zB0
    split at h
    ·rename_i k e hmt
     try rw [hmt]
     try simp only
     split at h
     ·rename_i hok
      rw [if_pos hok]
      have hof:zAZ (σ.set id (.map l)) (.map id)=some l:=by simp [zAZ,zA6.set]
      rw [hof]
      simp only
      split at h
      ·rename_i v hv
       obtain ⟨r',h7,h8⟩:=zDG h6.symm _ hv
       rw [<-List.singleton_perm.1 h8] at h7
       obtain ⟨j,hj⟩:=(zDH l 0).2 v h7
       rw [hj]; exact h
      ·rename_i hv
       obtain ⟨r',h7,h8⟩:=zDG h6.symm _ hv
       rw [List.nil_perm.1 h8] at h7
       rw [(zDH l 0).1 h7]; exact h
      ·cases h
     ·cases h
    ·cases h
   ·cases hm
  ·cases hm
 ·exact zD7 hS hx hk h

end Go.V
namespace Go.V
open Go.RowKit

section
variable {P:Program} {B:Nat} {w0:World} {g:zA2} {σ:zA6} {w:World}
def zDI (P:Program) (B:Nat) (w0:World) (g:zA2) (o:Oper) (act:Act) (w:World):Res->Prop
 | .ok v σ'=>∃ g' w' u nx,g.Le g'/\Sim B w0 g' σ' w'/\RV g' v u/\(execOp act.eval o).run P w = .ok nx w'/\(nx = .value u\/(nx = .skip/\u=undef))
 | .call (.fn f) args=>∃ vs:Array Value,(execOp act.eval o).run P w = .ok (.enter f vs) w/\RVL g args vs.toList
 | .call (.yield id) args=>∃ (vs:Array Value) (i:zA1),g.info id=some i/\(execOp act.eval o).run P w=(Instr.yield i.blk vs).run P w/\RVL g args vs.toList
 | .fail=>True
 | .both v1 σ1 v2 σ2=>∃ g' w' u nx,g.Le g'/\((Sim B w0 g' σ1 w'/\RV g' v1 u)\/(Sim B w0 g' σ2 w'/\RV g' v2 u))/\(execOp act.eval o).run P w = .ok nx w'/\(nx = .value u\/(nx = .skip/\u=undef))

theorem zDI.pure {o:Oper} {act:Act} {v:AV} {u:Value} (hS:Sim B w0 g σ w) (hv:RV g v u) (h:(execOp act.eval o).run P w = .ok (.value u) w):zDI P B w0 g o act w (.ok v σ) :=
 ⟨g,w,u,_,.refl g,hS,hv,h,.inl rfl⟩

theorem zDI.of {o:Oper} {act:Act} {r:Option AV} (hS:Sim B w0 g σ w) (h:∀ v,r=some v->∃ u,RV g v u/\(execOp act.eval o).run P w = .ok (.value u) w):zDI P B w0 g o act w (.of σ r):=by
 cases r with
 | none=>trivial
 | some v=>obtain ⟨u,h1,h2⟩:=h v rfl; exact .pure hS h1 h2

theorem RVL.map_ops {n:Nat} {G:Nat->AV} {a:Nat->AV} {act:Act} (hG:zBM g G) (hT:RelT n g a act) (xs:List Operand):RVL g (xs.map (zAA G a)) (xs.map act.eval) :=
 ⟨by simp,fun i h1 h2=>by simp only [List.getElem_map]; exact zBN hG hT _⟩

theorem RVO.map {n:Nat} {G:Nat->AV} {a:Nat->AV} {act:Act} (hG:zBM g G) (hT:RelT n g a act) (x:Option Operand):RVO g (x.map (zAA G a)) (x.map act.eval):=by
 cases x with
 | none=>exact .none
 | some x=>exact .some _ _ (zBN hG hT x)

theorem zDJ {t:Nat} {name:String} {f n:Nat} (h:zBH P t name=some f) (u:Value) (w:World):(method (n+Made.depth) t u name).run P w = .ok (f,u) w:=by
 unfold zBH at h
 split at h
 ·rename_i ti hti
  split at h
  ·rename_i m hm
   split at h
   ·rename_i f' ptr d hp hf hd
    have hp':m.path.toList=[]:=by
     have:m.path=#[]:=by simpa using hp
     rw [this]
    have hinfo:(typeInfo t).run P w = .ok ti w:=by
     simp only [typeInfo,Sem.run_bind,run_program,Result.andThen_ok,hti,Sem.run_pure]
    show (method (n+Made.depth) t u name).run P w=_
    obtain ⟨k,hk⟩:∃ k,n+Made.depth=k+1:=⟨n+Made.depth - 1,(Nat.succ_pred_eq_of_pos (Nat.lt_of_lt_of_le (by decide:0<Made.depth) (Nat.le_add_left _ _))).symm⟩
    rw [hk]
    simp only [method,Sem.run_bind,hinfo,Result.andThen_ok,hm,hp',follow,Sem.run_pure,hf,receiverAt,run_underlying hd,Place.get]
    cases d <;> cases ptr <;> simp at h <;> subst h <;> rfl
   ·cases h
  ·cases h
 ·cases h

theorem call_ok (hS:Sim B w0 g σ w) {n:Nat} {G:Nat->AV} {a:Nat->AV} {act:Act} (hG:zBM g G) (hT:RelT n g a act) {ann:Ann} {o:Oper} {c:Call} (ho:o.op = .call c) :
  zDI P B w0 g o act w (zBI P σ ann c (zAA G a)):=by
 have hex:(execOp act.eval o)=(do let d <-resolve act.eval c o.type; invoke d.target d.args):=by unfold execOp; rw [ho]
 unfold zBI
 split
 ·rename_i f hc
  split
  ·rename_i fid first captured hf
   split
   ·rename_i hb
    have h1:=zBN hG hT f
    rw [hf] at h1
    obtain ⟨fs,cs,he,hfs,hcs⟩:=h1.func_inv
    refine ⟨fs++c.args.map act.eval++cs,?_,?_⟩
    ·rw [hex]
     simp only [resolve,hc,he,Deferred.ofValue,Sem.run_bind,Sem.run_pure,Result.andThen_ok,invoke]
     exact zDF hb _ w
    ·simp only [Array.toList_append,Array.toList_map]
     exact (hfs.append (RVL.map_ops hG hT _)).append hcs
   ·trivial
  ·rename_i id hf
   have h1:=zBN hG hT f
   rw [hf] at h1
   generalize he:act.eval f=q at h1
   cases h1
   rename_i i hi
   refine ⟨c.args.map act.eval,i,hi,?_,?_⟩
   ·rw [hex]
    simp only [resolve,hc,he,Deferred.ofValue,Sem.run_bind,Sem.run_pure,Result.andThen_ok,invoke]
    simp
   ·simp only [Array.toList_map]
    exact RVL.map_ops hG hT _
  ·trivial
 ·rename_i r name hc
  split
  ·rename_i t v hf
   split
   ·rename_i f hm
    split
    ·rename_i hb
     have h1:=zBN hG hT r
     rw [hf] at h1
     generalize he:act.eval r=q at h1
     cases h1
     rename_i u hu
     refine ⟨#[u]++c.args.map act.eval,?_,?_⟩
     ·rw [hex]
      have e1:(#[Value.iface t u]++c.args.map act.eval).extract 1 (#[Value.iface t u]++c.args.map act.eval).size=c.args.map act.eval:=by
       simp
      simp only [resolve,hc,he,Sem.run_bind,Sem.run_pure,Result.andThen_ok,invoke]
      have e0:(#[Value.iface t u]++c.args.map act.eval)[0]? = some (Value.iface t u):=by rw [Array.getElem?_append_left (Nat.zero_lt_one)]; rfl
      rw [e0]
      simp only [e1,callMethod,Sem.run_bind,run_program,Result.andThen_ok,zDJ hm u w]
      exact zDF hb _ w
     ·simp only [Array.toList_append,Array.toList_map]
      exact (RVL.cons hu (.nil g)).append (RVL.map_ops hG hT _)
    ·trivial
   ·trivial
  ·trivial
 ·rename_i hc
  split
  ·rename_i t x ht hx
   split
   ·rename_i k hk
    obtain ⟨o1,ho1,hox⟩:∃ o1,c.args.toList=[o1]/\zAA G a o1=x:=by
     cases hl:c.args.toList with
     | nil=>rw [hl] at hx; simp at hx
     | cons o1 r=>cases r with
      | nil=>rw [hl] at hx; simp at hx; exact ⟨o1,rfl,hx⟩
      | cons o2 r=>rw [hl] at hx; simp at hx
    subst hox
    have hl:=len_ok hS (zBN hG hT o1) hk
    refine .pure hS (.int .i64 k) ?_
    have e1:c.args=#[o1]:=by apply Array.ext'; simpa using ho1
    have e2:c.argTypes=#[t]:=by apply Array.ext'; simpa using ht
    rw [hex]
    simp only [resolve,hc,e1,e2,Sem.run_bind,Sem.run_pure,Result.andThen_ok,invoke,builtin,List.map_toArray,List.map_cons,List.map_nil]
    have h0:(Builtin.len_ #[t] o.type #[act.eval o1])=Builtin.len_ #[t] 0 #[act.eval o1]:=rfl
    rw [h0,hl]
    rfl
   ·trivial
  ·trivial
 ·rename_i hc
  split
  ·rename_i t t' x y ht hx
   obtain ⟨o1,o2,ho1,hox,hoy⟩:∃ o1 o2,c.args.toList=[o1,o2]/\zAA G a o1=x/\zAA G a o2=y:=by
    cases hl:c.args.toList with
    | nil=>rw [hl] at hx; simp at hx
    | cons o1 r=>cases r with
     | nil=>rw [hl] at hx; simp at hx
     | cons o2 r=>cases r with
      | nil=>rw [hl] at hx; simp at hx; exact ⟨o1,o2,rfl,hx.1,hx.2⟩
      | cons o3 r=>rw [hl] at hx; simp at hx
   subst hox; subst hoy
   have e1:c.args=#[o1,o2]:=by apply Array.ext'; simpa using ho1
   have e2:c.argTypes=#[t,t']:=by apply Array.ext'; simpa using ht
   have e3:∀ r σ',zBA P σ ann t t' (zAA G a o1) (zAA G a o2) = .ok r σ'->∃ g' w' z,g.Le g'/\Sim B w0 g' σ' w'/\RV g' r z/\(Builtin.append_ #[t,t'] o.type #[act.eval o1,act.eval o2]).run P w = .ok z w':=by
    intro r σ' hr
    have hx:=zBN hG hT o1
    have hy:=zBN hG hT o2
    unfold zBA at hr
    split at hr
    ·rename_i k l hl
     rw [hl] at hy
     generalize act.eval o2=y at hy
     cases hy
     exact zeros_ok (ty:=o.type) hS hx hr
    ·exact zCS (ty:=o.type) hS hx hy hr
   cases hr:zBA P σ ann t t' (zAA G a o1) (zAA G a o2) with
   | fail=>trivial
   | both r1 σ1 r2 σ2 =>
    have hx:=zBN hG hT o1
    have hy:=zBN hG hT o2
    have hz:∃ g' w' z,g.Le g'/\(Builtin.append_ #[t,t'] o.type #[act.eval o1,act.eval o2]).run P w = .ok z w'/\((Sim B w0 g' σ1 w'/\RV g' r1 z)\/(Sim B w0 g' σ2 w'/\RV g' r2 z)):=by
     unfold zBA at hr
     split at hr
     ·unfold zB9 at hr
      repeat' (split at hr <;> try (cases hr; done))
     ·exact zCU (ty:=o.type) hS hx hy hr
    obtain ⟨g',w',z,h1,h4,h2⟩:=hz
    refine ⟨g',w',z,.value z,h1,h2,?_,.inl rfl⟩
    rw [hex]
    simp only [resolve,hc,e1,e2,Sem.run_bind,Sem.run_pure,Result.andThen_ok,invoke,builtin,List.map_toArray,List.map_cons,List.map_nil]
    rw [h4]
    rfl
   | call f args =>
    unfold zBA at hr
    split at hr
    ·unfold zB9 at hr
     repeat' (split at hr <;> try (cases hr; done))
    unfold zB8 at hr
    repeat' (split at hr <;> try (cases hr; done))
   | ok r σ' =>
    obtain ⟨g',w',z,h1,h2,h3,h4⟩:=e3 _ _ hr
    refine ⟨g',w',z,.value z,h1,h2,h3,?_,.inl rfl⟩
    rw [hex]
    simp only [resolve,hc,e1,e2,Sem.run_bind,Sem.run_pure,Result.andThen_ok,invoke,builtin,List.map_toArray,List.map_cons,List.map_nil]
    rw [h4]
    rfl
  ·trivial
 ·rename_i hc
  split
  ·rename_i x y hx
   split
   ·rename_i v hv
    obtain ⟨o1,o2,ho1,hox,hoy⟩:∃ o1 o2,c.args.toList=[o1,o2]/\zAA G a o1=x/\zAA G a o2=y:=by
     cases hl:c.args.toList with
     | nil=>rw [hl] at hx; simp at hx
     | cons o1 r=>cases r with
      | nil=>rw [hl] at hx; simp at hx
      | cons o2 r=>cases r with
       | nil=>rw [hl] at hx; simp at hx; exact ⟨o1,o2,rfl,hx.1,hx.2⟩
       | cons o3 r=>rw [hl] at hx; simp at hx
    subst hox; subst hoy
    have e1:c.args=#[o1,o2]:=by apply Array.ext'; simpa using ho1
    obtain ⟨h1,h2⟩:=zDE (P:=P) (w:=w) (zBN hG hT o1) (zBN hG hT o2) hv
    refine .pure hS h2 ?_
    rw [hex]
    simp only [resolve,hc,e1,Sem.run_bind,Sem.run_pure,Result.andThen_ok,invoke,builtin,List.map_toArray,List.map_cons,List.map_nil,Builtin.max_,List.foldlM_cons,List.foldlM_nil]
    simp only [if_true] at h1
    rw [h1]
    rfl
   ·trivial
  ·trivial
 ·rename_i hc
  split
  ·rename_i x y hx
   split
   ·rename_i v hv
    obtain ⟨o1,o2,ho1,hox,hoy⟩:∃ o1 o2,c.args.toList=[o1,o2]/\zAA G a o1=x/\zAA G a o2=y:=by
     cases hl:c.args.toList with
     | nil=>rw [hl] at hx; simp at hx
     | cons o1 r=>cases r with
      | nil=>rw [hl] at hx; simp at hx
      | cons o2 r=>cases r with
       | nil=>rw [hl] at hx; simp at hx; exact ⟨o1,o2,rfl,hx.1,hx.2⟩
       | cons o3 r=>rw [hl] at hx; simp at hx
    subst hox; subst hoy
    have e1:c.args=#[o1,o2]:=by apply Array.ext'; simpa using ho1
    obtain ⟨h1,h2⟩:=zDE (P:=P) (w:=w) (zBN hG hT o1) (zBN hG hT o2) hv
    refine .pure hS h2 ?_
    rw [hex]
    simp only [resolve,hc,e1,Sem.run_bind,Sem.run_pure,Result.andThen_ok,invoke,builtin,List.map_toArray,List.map_cons,List.map_nil,Builtin.min_,List.foldlM_cons,List.foldlM_nil]
    simp only [Bool.false_eq_true,if_false] at h1
    rw [h1]
    rfl
   ·trivial
  ·trivial
 ·rename_i hc
  split
  ·rename_i t ht hx
   split
   ·rename_i el hu
    obtain ⟨o1,ho1,hox⟩:∃ o1,c.args.toList=[o1]/\zAA G a o1 = .nilslice:=by
     cases hl:c.args.toList with
     | nil=>rw [hl] at hx; simp at hx
     | cons o1 r=>cases r with
      | nil=>rw [hl] at hx; simp at hx; exact ⟨o1,rfl,hx⟩
      | cons o2 r=>rw [hl] at hx; simp at hx
    have h1:=zBN hG hT o1
    rw [hox] at h1
    have he:act.eval o1 = .slice none 0 0:=by generalize act.eval o1=q at h1; cases h1; rfl
    refine .pure hS (.int .i64 0) ?_
    have e1:c.args=#[o1]:=by apply Array.ext'; simpa using ho1
    have e2:c.argTypes=#[t]:=by apply Array.ext'; simpa using ht
    rw [hex]
    simp only [resolve,hc,e1,e2,he,Sem.run_bind,Sem.run_pure,Result.andThen_ok,invoke,builtin,List.map_toArray,List.map_cons,List.map_nil]
    simp [Builtin.cap_,Sem.run_bind,run_underlying hu,goInt,Sem.run_pure]
   ·trivial
  ·trivial
 ·trivial

theorem zDK {n:Nat} {G:Nat->AV} {a:Nat->AV} {act:Act} (hG:zBM g G) (hT:RelT n g a act) (parts:Array (Nat×Operand)) :
  (parts.toList.map fun p=>(p.1,zAA G a p.2)).map (·.1)=(parts.map fun (i,x)=>(i,act.eval x)).toList.map (·.1) /\
  RVL g ((parts.toList.map fun p=>(p.1,zAA G a p.2)).map (·.2)) ((parts.map fun (i,x)=>(i,act.eval x)).toList.map (·.2)):=by
 constructor
 ·simp [List.map_map,Function.comp_def]
 ·simp only [List.map_map,Array.toList_map]
  exact ⟨by simp,fun i h1 h2=>by simp only [List.getElem_map,Function.comp]; exact zBN hG hT _⟩

theorem op_ok (hS:Sim B w0 g σ w) {n:Nat} {G:Nat->AV} {a:Nat->AV} {act:Act} (hG:zBM g G) (hT:RelT n g a act) (ann:Ann) (o:Oper) :
  zDI P B w0 g o act w (aop P ann o.op (zAA G a) σ):=by
 have R:=fun x=>zBN hG hT x
 obtain ⟨dst,op,type,pos,after,guard⟩:=o
 cases op with
 | move x=>exact .pure hS (R x) rfl
 | assign x=>exact .pure hS (R x) rfl
 | pick c x y =>
  simp only [aop]
  split
  ·rename_i b hb
   have hc:=R c
   rw [hb] at hc
   have hcb:act.eval c = .bool b:=by cases hh:act.eval c <;> rw [hh] at hc <;> cases hc; rfl
   refine .pure (u:=if b then act.eval x else act.eval y) hS (by cases b <;> simp <;> exact R _) ?_
   simp only [execOp,hcb,asBool,Sem.run_bind,Sem.run_pure,Result.andThen_ok]
  ·trivial
 | alloc e =>
  simp only [aop]
  split
  ·rename_i z hz
   cases hr:zAO σ e (av z).cells with
   | fail=>trivial
   | call f args=>unfold zAO at hr; split at hr <;> cases hr
   | both v1 σ1 v2 σ2=>unfold zAO at hr; split at hr <;> cases hr
   | ok r σ' =>
    have hne:av z ≠ .undef:=by
     intro e0; rw [e0] at hr; simp [zAO,AV.cells,AV.one] at hr
    obtain ⟨h1,h2,h3⟩:=new_ok hS ((zBL g z).cells hne) hr
    refine ⟨_,_,_,_,h1,h2,h3,?_,.inl rfl⟩
    simp only [execOp,Instr.alloc,Sem.run_bind,zD6 hz w,Result.andThen_ok]
    rfl
  ·trivial
 | box e x =>
  simp only [aop]
  split
  ·trivial
  ·rename_i hu
   cases hr:zAO σ e (zAA G a x).cells with
   | fail=>trivial
   | call f args=>unfold zAO at hr; split at hr <;> cases hr
   | both v1 σ1 v2 σ2=>unfold zAO at hr; split at hr <;> cases hr
   | ok r σ' =>
    have hne:zAA G a x ≠ .undef:=by intro e0; rw [e0] at hu; simp [AV.isUndef] at hu
    obtain ⟨h1,h2,h3⟩:=new_ok hS ((R x).cells hne) hr
    exact ⟨_,_,_,_,h1,h2,h3,rfl,.inl rfl⟩
 | build t parts =>
  obtain ⟨h1,h2⟩:=zDK hG hT parts
  refine .of hS fun v hv => ?_
  obtain ⟨z,h3,h4⟩:=build_ok (P:=P) (w:=w) h1 h2 hv
  exact ⟨z,h4,by simp only [execOp,Sem.run_bind]; rw [h3]; rfl⟩
 | buildSlice t len parts =>
  obtain ⟨h1,h2⟩:=zDK hG hT parts
  simp only [aop]
  cases hr:zBF P σ ann t len (parts.toList.map fun p=>(p.1,zAA G a p.2)) with
  | fail=>trivial
  | call f args =>
   unfold zBF at hr
   split at hr <;> try (cases hr; done)
   split at hr <;> try (cases hr; done)
   split at hr <;> try (cases hr; done)
   split at hr <;> cases hr
  | both v1 σ1 v2 σ2 =>
   unfold zBF at hr
   split at hr <;> try (cases hr; done)
   split at hr <;> try (cases hr; done)
   split at hr <;> try (cases hr; done)
   split at hr <;> cases hr
  | ok r σ' =>
   obtain ⟨g',w',z,h3,h4,h5,h6⟩:=zCZ (P:=P) hS h1 h2 hr
   exact ⟨g',w',z,_,h3,h4,h5,by simp only [execOp,Sem.run_bind]; rw [h6]; rfl,.inl rfl⟩
 | load t x =>
  refine .of hS fun v hv => ?_
  obtain ⟨z,h3,h4⟩:=zBV hS (R x) hv
  exact ⟨z,h4,by simp only [execOp,Sem.run_bind]; rw [h3]; rfl⟩
 | store t x v =>
  simp only [aop]
  cases hr:zAN P σ t (zAA G a x) (zAA G a v) with
  | fail=>trivial
  | call f args =>
   unfold zAN at hr
   split at hr <;> try (cases hr; done)
   split at hr <;> try (cases hr; done)
   split at hr <;> cases hr
  | both v1 σ1 v2 σ2 =>
   unfold zAN at hr
   split at hr <;> try (cases hr; done)
   split at hr <;> try (cases hr; done)
   split at hr <;> cases hr
  | ok r σ' =>
   obtain ⟨w',h3,h4,rfl⟩:=store_ok hS (R x) (R v) hr
   exact ⟨g,w',undef,.skip,.refl g,h4,.undef _,by simp only [execOp,Sem.run_bind]; rw [h3]; rfl,.inr ⟨rfl,rfl⟩⟩
 | nilCheck x =>
  simp only [aop]
  have hx:=R x
  split <;> (try trivial) <;> (rename_i he; rw [he] at hx)
  ·cases hh:act.eval x <;> rw [hh] at hx <;> cases hx
   refine .pure hS (.ptr _ _ _ ‹_›) ?_
   simp only [execOp,hh]; rfl
  ·cases hh:act.eval x <;> rw [hh] at hx <;> cases hx
   refine .pure hS (.vptr _ _ _ _ ‹_› ‹_› ‹_›) ?_
   simp only [execOp,hh]; rfl
  ·obtain ⟨fs,cs,hh,h1,h2⟩:=hx.func_inv
   refine .pure hS (.func' h1 h2) ?_
   simp only [execOp,hh]; rfl
  ·cases hh:act.eval x <;> rw [hh] at hx <;> cases hx
   refine .pure hS (.iface _ _ _ ‹_›) ?_
   simp only [execOp,hh]; rfl
 | binOp op t x y yt =>
  refine .of hS fun v hv => ?_
  obtain ⟨z,h3,h4⟩:=bin_ok (P:=P) (w:=w) (R x) (R y) hv
  exact ⟨z,h4,by simp only [execOp]; rw [Sem.run_bind]; rw [h3]; rfl⟩
 | unOp op t x =>
  refine .of hS fun v hv => ?_
  obtain ⟨z,h3,h4⟩:=un_ok (P:=P) (w:=w) (R x) hv
  exact ⟨z,h4,by simp only [execOp,Sem.run_bind]; rw [h3]; rfl⟩
 | convert s d x =>
  refine .of hS fun v hv => ?_
  obtain ⟨z,h3,h4⟩:=conv_ok (P:=P) (w:=w) (R x) hv
  exact ⟨z,h4,by simp only [execOp,Sem.run_bind]; rw [h3]; rfl⟩
 | makeInterface t x =>
  simp only [aop]
  split
  ·trivial
  ·rename_i d hnd hd
   refine .pure hS (.iface t _ _ (R x)) ?_
   simp only [execOp,Instr.makeInterface,Sem.run_bind,run_underlying hd,Result.andThen_ok]
   cases d <;> first | rfl | exact absurd rfl (hnd _)
  ·trivial
 | makeFunc fn first captured =>
  refine .pure hS (.func' (fs:=first.map act.eval) (cs:=captured.map act.eval) ?_ ?_) rfl
  ·rw [Array.toList_map]; exact RVL.map_ops hG hT _
  ·rw [Array.toList_map]; exact RVL.map_ops hG hT _
 | makeMap t r =>
  cases r with
  | some r=>trivial
  | none =>
   simp only [aop]
   obtain ⟨h1,h2⟩:=hS.new (.map []) (.map #[] 0) 0 0 ⟨⟨w.heap.size,0,0⟩,#[],0,by simp,hS.size,zA8 w _,rfl,fun k h=>by simp at h⟩
   exact ⟨_,_,_,_,h1,h2,.map σ.next ⟨w.heap.size,0,0⟩ (by simp),rfl,.inl rfl⟩
 | makeSlice t l c =>
  simp only [aop]
  cases hr:zBC P σ t (zAA G a l) (zAA G a c) with
  | fail=>trivial
  | call f args =>
   unfold zBC at hr
   split at hr <;> try (cases hr; done)
   split at hr <;> try (cases hr; done)
   split at hr <;> cases hr
  | both v1 σ1 v2 σ2 =>
   unfold zBC at hr
   split at hr <;> try (cases hr; done)
   split at hr <;> try (cases hr; done)
   split at hr <;> cases hr
  | ok r σ' =>
   obtain ⟨g',w',z,h3,h4,h5,h6⟩:=make_ok (P:=P) hS (R l) (R c) hr
   exact ⟨g',w',z,_,h3,h4,h5,by simp only [execOp,Sem.run_bind]; rw [h6]; rfl,.inl rfl⟩
 | slice t x lo hi mx =>
  refine .of hS fun v hv => ?_
  obtain ⟨z,h3,h4⟩:=slice_ok (P:=P) hS (R x) (RVO.map hG hT lo) (RVO.map hG hT hi) (RVO.map hG hT mx) hv
  exact ⟨z,h4,by simp only [execOp,Sem.run_bind]; rw [h3]; rfl⟩
 | fieldAddr s x f =>
  refine .of hS fun v hv => ?_
  obtain ⟨z,h3,h4⟩:=zCF (P:=P) (w:=w) (R x) hv
  exact ⟨z,h4,by simp only [execOp,Sem.run_bind]; rw [h3]; rfl⟩
 | field s x f =>
  refine .of hS fun v hv => ?_
  obtain ⟨z,h3,h4⟩:=field_ok (P:=P) (w:=w) (R x) hv
  exact ⟨z,h4,by simp only [execOp,Sem.run_bind]; rw [h3]; rfl⟩
 | indexAddr t x i =>
  refine .of hS fun v hv => ?_
  obtain ⟨z,h3,h4⟩:=zCG (P:=P) hS (R x) (R i) hv
  exact ⟨z,h4,by simp only [execOp,Sem.run_bind]; rw [h3]; rfl⟩
 | index t x i =>
  refine .of hS fun v hv => ?_
  obtain ⟨z,h3,h4⟩:=index_ok (P:=P) (w:=w) (R x) (R i) hv
  exact ⟨z,h4,by simp only [execOp,Sem.run_bind]; rw [h3]; rfl⟩
 | lookup t x k ok =>
  refine .of hS fun v hv => ?_
  obtain ⟨z,h3,h4⟩:=look_ok (P:=P) hS (R x) (R k) hv
  exact ⟨z,h4,by simp only [execOp,Sem.run_bind]; rw [h3]; rfl⟩
 | mapUpdate t m k x =>
  simp only [aop]
  cases hr:zB6 P σ t (zAA G a m) (zAA G a k) (zAA G a x) with
  | fail=>trivial
  | call f args =>
   unfold zB6 at hr
   split at hr <;> try (cases hr; done)
   split at hr <;> try (cases hr; done)
   split at hr <;> try (cases hr; done)
   split at hr <;> cases hr
  | both v1 σ1 v2 σ2 =>
   unfold zB6 at hr
   split at hr <;> try (cases hr; done)
   split at hr <;> try (cases hr; done)
   split at hr <;> try (cases hr; done)
   split at hr <;> cases hr
  | ok r σ' =>
   obtain ⟨w',h3,h4,rfl⟩:=zDD (P:=P) hS (R m) (R k) (R x) hr
   exact ⟨g,w',undef,.skip,.refl g,h4,.undef _,by simp only [execOp,Sem.run_bind]; rw [h3]; rfl,.inr ⟨rfl,rfl⟩⟩
 | insert t m k x =>
  simp only [aop]
  cases hr:zB6 P σ t (zAA G a m) (zAA G a k) (zAA G a x) with
  | fail=>trivial
  | call f args =>
   unfold zB6 at hr
   split at hr <;> try (cases hr; done)
   split at hr <;> try (cases hr; done)
   split at hr <;> try (cases hr; done)
   split at hr <;> cases hr
  | both v1 σ1 v2 σ2 =>
   unfold zB6 at hr
   split at hr <;> try (cases hr; done)
   split at hr <;> try (cases hr; done)
   split at hr <;> try (cases hr; done)
   split at hr <;> cases hr
  | ok r σ' =>
   obtain ⟨w',h3,h4,rfl⟩:=zDD (P:=P) hS (R m) (R k) (R x) hr
   exact ⟨g,w',undef,.skip,.refl g,h4,.undef _,by simp only [execOp,Sem.run_bind]; rw [h3]; rfl,.inr ⟨rfl,rfl⟩⟩
 | extract x i =>
  refine .of hS fun v hv => ?_
  obtain ⟨z,h3,h4⟩:=ext_ok (P:=P) (w:=w) (R x) hv
  exact ⟨z,h4,by simp only [execOp,Sem.run_bind]; rw [h3]; rfl⟩
 | range t x =>
  simp only [aop]
  split
  ·rename_i s hu hx
   have hr:=R x
   rw [hx] at hr
   have he:act.eval x = .string s:=by generalize act.eval x=q at hr; cases hr; rfl
   obtain ⟨h1,h2⟩:=hS.new (.siter s 0) (.stringIter s 0) 0 0 ⟨⟨w.heap.size,0,0⟩,by simp,hS.size,zA8 w _⟩
   refine ⟨_,w.alloc (.stringIter s 0),_,_,h1,h2,.ptr σ.next 0 ⟨w.heap.size,0,0⟩ (by simp),?_,.inl rfl⟩
   simp only [execOp,he,Instr.range,Sem.run_bind,run_underlying hu,Result.andThen_ok,Sem.run_pure]
   rfl
  ·trivial
 | next x isS =>
  simp only [aop]
  split
  ·rename_i id hx
   split
   ·rename_i s pos ho
    have hr:=R x
    rw [hx] at hr
    have hob:=hS.objs id
    rw [ho] at hob
    obtain ⟨i,h1,h2,h3⟩:=hob
    have he:act.eval x = .pointer (some ⟨i.blk,0,none⟩):=by
     generalize act.eval x=q at hr
     cases hr
     rename_i i' hi'
     rw [h1] at hi'; cases hi'; rfl
    have hget:(getObj i.blk).run P w = .ok (.stringIter s pos) w:=by
     simp [getObj,Sem.run,h3]
    split
    ·rename_i hlt
     refine ⟨g,{ w with heap:=w.heap.setIfInBounds i.blk (.stringIter s (pos+(Utf8.decode s pos).2)) },.tuple #[.bool true,goInt pos,.int .i32 (Utf8.decode s pos).1],.value (.tuple #[.bool true,goInt pos,.int .i32 (Utf8.decode s pos).1]),.refl g,?_,?_,?_,.inl rfl⟩
     ·refine hS.write (w':={ w with heap:=w.heap.setIfInBounds i.blk (.stringIter s (pos+(Utf8.decode s pos).2)) }) h1 (by rw [ho]; simp) ?_ rfl rfl rfl (by simp) (fun b hb=>by simp [Array.getElem?_setIfInBounds_ne (Ne.symm hb)]) (.siter s (pos+(Utf8.decode s pos).2)) ⟨i,h1,h2,by
       have hlt':=(Array.getElem?_eq_some_iff.1 h3).1
       simp [hlt']⟩
      intro o
      cases hv:g.F i.blk o with
      | none=>rfl
      | some v=>have:=hS.froz _ _ _ hv; simp [World.cell?,h3] at this
     ·exact .tuple' (vs:=#[.bool true,goInt pos,.int .i32 (Utf8.decode s pos).1]) (.cons (.bool true) (.cons (.int .i64 _) (.cons (.int .i32 _) (.nil g))))
     ·simp only [execOp,he,Instr.next,Sem.run_bind,hget,Result.andThen_ok,hlt,if_true,setObj,Sem.run,Sem.run_pure,h3]
    ·rename_i hlt
     refine .pure (u:=.tuple #[.bool false]) hS (.tuple' (.cons (.bool false) (.nil g))) ?_
     simp only [execOp,he,Instr.next,Sem.run_bind,hget,Result.andThen_ok,hlt,if_false,Sem.run_pure]
   ·trivial
  ·trivial
 | call c=>exact call_ok hS hG hT rfl
 | _=>trivial

def zDL (P:Program) (ann:Ann) (o:Oper) (ρ:Operand->AV) (σ:zA6):Res :=
 match aop P ann o.op ρ σ with
 | .ok v σ'=>if ann = .frz then
   match elT P o.type with
   | some e=>match zAC P e with
    | some k=>zBB σ' k v
    | none => .fail
   | none => .fail
  else .ok v σ'
 | r=>r

theorem opF_ok (hS:Sim B w0 g σ w) {n:Nat} {G:Nat->AV} {a:Nat->AV} {act:Act} (hG:zBM g G) (hT:RelT n g a act) (ann:Ann) (o:Oper) :
  zDI P B w0 g o act w (zDL P ann o (zAA G a) σ):=by
 have h:=op_ok (P:=P) hS hG hT ann o
 unfold zDL
 split
 ·rename_i v σ' hr
  rw [hr] at h
  split
  ·split
   ·split
    ·rename_i k hk
     obtain ⟨g',w',u,nx,h1,h2,h3,h4,h5⟩:=h
     cases hf:zBB σ' k v with
     | fail=>trivial
     | call f args =>
      unfold zBB at hf
      split at hf <;> try (cases hf; done)
      split at hf <;> try (cases hf; done)
      split at hf <;> cases hf
     | both v1 σ1 v2 σ2 =>
      unfold zBB at hf
      split at hf <;> try (cases hf; done)
      split at hf <;> try (cases hf; done)
      split at hf <;> cases hf
     | ok r σ'' =>
      obtain ⟨g'',k1,k2,k3⟩:=zCV h2 h3 hf
      exact ⟨g'',w',u,nx,h1.trans k1,k2,k3,h4,h5⟩
    ·trivial
   ·trivial
  ·exact h
 ·exact h

end
end Go.V
