/- A part of the proof of the statement S8 (texts brought together and shortened by a program of this work). -/
import Derived.Test.YtgnjidopnplbbaaGreatDoorQ7
set_option linter.unusedSimpArgs false
set_option linter.unusedVariables false
namespace Go.V
open Go.RowKit

def zJV (v:AV):Prop:=∀ (g g':zA2) u,(∀ b o x,g.F b o=some x->g'.F b o=some x)->RV g v u->RV g' v u

theorem zJV.undef:zJV .undef:=fun g g' u hF h => .undef u
theorem zJV.bool (b:Bool):zJV (.bool b):=fun g g' u hF h=>by cases h; exact .bool b
theorem zJV.int (k:IntKind) (n:Int):zJV (.int k n):=fun g g' u hF h=>by cases h; exact .int k n
theorem zJV.str (s:ByteArray):zJV (.str s):=fun g g' u hF h=>by cases h; exact .str s
theorem zJV.nilptr:zJV .nilptr:=fun g g' u hF h=>by cases h; exact .nilptr
theorem zJV.nilslice:zJV .nilslice:=fun g g' u hF h=>by cases h; exact .nilslice
theorem zJV.nilmap:zJV .nilmap:=fun g g' u hF h=>by cases h; exact .nilmap
theorem zJV.nilfunc:zJV .nilfunc:=fun g g' u hF h=>by cases h; exact .nilfunc
theorem zJV.niliface:zJV .niliface:=fun g g' u hF h=>by cases h; exact .niliface
theorem zJV.agg {cs:List AV} (hc:∀ x∈cs,zJV x):zJV (.agg cs):=fun g g' u hF h=>by
 cases h with
 | agg _ vs hl hr=>exact .agg cs vs hl fun i h1 h2=>hc _ (List.getElem_mem h1) g g' _ hF (hr i h1 h2)
theorem zJV.tuple {cs:List AV} (hc:∀ x∈cs,zJV x):zJV (.tuple cs):=fun g g' u hF h=>by
 cases h with
 | tuple _ vs hl hr=>exact .tuple cs vs hl fun i h1 h2=>hc _ (List.getElem_mem h1) g g' _ hF (hr i h1 h2)
theorem zJV.vptr {cs:List AV} (hc:∀ x∈cs,zJV x):zJV (.vptr cs):=fun g g' u hF h=>by
 cases h with
 | vptr _ b o vs hl hf hr=>exact .vptr cs b o vs hl (fun i hi=>hF _ _ _ (hf i hi)) fun i h1 h2=>hc _ (List.getElem_mem h1) g g' _ hF (hr i h1 h2)
theorem zJV.iface {t:Nat} {v:AV} (hv:zJV v):zJV (.iface t v):=fun g g' u hF h=>by
 cases h with
 | iface _ _ u hr=>exact .iface t v u (hv g g' u hF hr)
theorem zJV.func {fn:Fn} {fs cs:List AV} (hf:∀ x∈fs,zJV x) (hc:∀ x∈cs,zJV x):zJV (.func fn fs cs):=fun g g' u hF h=>by
 cases h with
 | func _ _ _ us vs hfl hcl h1 h2=>exact .func fn fs cs us vs hfl hcl (fun i a b=>hf _ (List.getElem_mem a) g g' _ hF (h1 i a b)) (fun i a b=>hc _ (List.getElem_mem a) g g' _ hF (h2 i a b))
theorem zJV.slice {sz:Nat} {xs:List AV} {m:Cap} (hm:∀ id,m ≠ .tok id) (hx:∀ x∈zA0 xs,zJV x):zJV (.slice sz xs m):=fun g g' u hF h=>by
 cases h with
 | slice _ _ _ a cap vs hsz hl hsp hf h1 hr hcap hc =>
  refine .slice sz xs m a cap vs hsz hl hsp (fun i hi=>hF _ _ _ (hf i hi)) h1 (fun i a b=>hx _ (List.getElem_mem a) g g' _ hF (hr i a b)) hcap ?_
  cases m with
  | any=>trivial
  | nn=>trivial
  | full=>exact hc
  | tok id=>exact absurd rfl (hm id)
 | nilany=>exact .nilany sz

mutual
def zJW:AV->Bool
 | .undef | .bool _ | .int _ _ | .str _ | .nilptr | .nilslice | .nilmap | .nilfunc | .niliface=>true
 | .vptr cs=>noIdL cs
 | .slice _ xs m=>(match m with | .tok _=>false | _=>true)&&noIdL xs
 | .func _ fs cs=>noIdL fs&&noIdL cs
 | .iface _ v=>zJW v
 | .agg cs=>noIdL cs
 | .tuple cs=>noIdL cs
 | _=>false
def noIdL:List AV->Bool
 | []=>true
 | x :: xs=>zJW x&&noIdL xs
end

mutual
theorem zJX:∀ v,zJW v=true->zJV v/\∀ x∈v.cells,zJV x
 | .undef,_=>⟨.undef,fun x hx=>by simp [AV.cells] at hx; subst hx; exact .undef⟩
 | .bool b,_=>⟨.bool b,fun x hx=>by simp [AV.cells] at hx; subst hx; exact .bool b⟩
 | .int k n,_=>⟨.int k n,fun x hx=>by simp [AV.cells] at hx; subst hx; exact .int k n⟩
 | .str s,_=>⟨.str s,fun x hx=>by simp [AV.cells] at hx; subst hx; exact .str s⟩
 | .nilptr,_=>⟨.nilptr,fun x hx=>by simp [AV.cells] at hx; subst hx; exact .nilptr⟩
 | .nilslice,_=>⟨.nilslice,fun x hx=>by simp [AV.cells] at hx; subst hx; exact .nilslice⟩
 | .nilmap,_=>⟨.nilmap,fun x hx=>by simp [AV.cells] at hx; subst hx; exact .nilmap⟩
 | .nilfunc,_=>⟨.nilfunc,fun x hx=>by simp [AV.cells] at hx; subst hx; exact .nilfunc⟩
 | .niliface,_=>⟨.niliface,fun x hx=>by simp [AV.cells] at hx; subst hx; exact .niliface⟩
 | .vptr cs,h=>have k:=zJV.vptr (noIdL_ok cs (by simpa [zJW] using h)).1; ⟨k,fun x hx=>by simp [AV.cells] at hx; subst hx; exact k⟩
 | .slice sz xs m,h=>by
  simp only [zJW,Bool.and_eq_true] at h
  have k:zJV (.slice sz xs m):=.slice (fun id e=>by subst e; simp at h) (noIdL_ok xs h.2).2
  exact ⟨k,fun x hx=>by simp [AV.cells] at hx; subst hx; exact k⟩
 | .func fn fs cs,h=>by
  simp only [zJW,Bool.and_eq_true] at h
  have k:zJV (.func fn fs cs):=.func (noIdL_ok fs h.1).1 (noIdL_ok cs h.2).1
  exact ⟨k,fun x hx=>by simp [AV.cells] at hx; subst hx; exact k⟩
 | .iface t v,h=>have k:=zJV.iface (t:=t) (zJX v (by simpa [zJW] using h)).1; ⟨k,fun x hx=>by simp [AV.cells] at hx; subst hx; exact k⟩
 | .agg cs,h=>have k:=(noIdL_ok cs (by simpa [zJW] using h)).1; ⟨.agg k,k⟩
 | .tuple cs,h=>have k:=zJV.tuple (noIdL_ok cs (by simpa [zJW] using h)).1; ⟨k,fun x hx=>by simp [AV.cells] at hx; subst hx; exact k⟩
 | .ptr _ _,h=>by simp [zJW] at h
 | .rslice _ _ _,h=>by simp [zJW] at h
 | .view _ _ _,h=>by simp [zJW] at h
 | .map _,h=>by simp [zJW] at h
 | .yield _,h=>by simp [zJW] at h
theorem noIdL_ok:∀ xs,noIdL xs=true->(∀ x∈xs,zJV x)/\∀ x∈zA0 xs,zJV x
 | [],_=>⟨by simp,by simp [zA0]⟩
 | x :: xs,h=>by
  simp only [noIdL,Bool.and_eq_true] at h
  have h1:=zJX x h.1
  have h2:=noIdL_ok xs h.2
  refine ⟨fun y hy => ?_,fun y hy => ?_⟩
  ·rcases List.mem_cons.1 hy with rfl | hy
   ·exact h1.1
   ·exact h2.1 y hy
  ·rw [zC3] at hy
   rcases List.mem_append.1 hy with hy | hy
   ·exact h1.2 y hy
   ·exact h2.2 y hy
end

def zA6.untok (σ:zA6):zA6:={ σ with objs:=fun id=>match σ.objs id with | .tok _ _ _ => .dead | o=>o }
theorem zA6.untok_le (σ:zA6):σ.untok.Le σ:=⟨rfl,fun id=>by
 unfold zA6.untok
 dsimp only
 split
 ·exact .inr rfl
 ·exact .inl rfl⟩

def zJY:zA5->Bool
 | .tok _ _ _=>true
 | _=>false

def zJZ:zA6:=⟨fun _ => .dead,0⟩

section
variable {B:Nat} {w0:World} {g:zA2} {σ:zA6} {w:World}
theorem zA7.noF {id:Nat} {o:zA5} (hS:Sim B w0 g σ w) (h:zA7 B g w id o) (hd:o ≠ .dead) (ht:zJY o=false):∃ i x,g.info id=some i/\B<=i.blk/\w.heap[i.blk]? = some x/\∀ p,g.F i.blk p=none:=by
 have key:∀ {b:Nat} {x:Obj},w.heap[b]? = some x->(∀ c e s,x ≠ .cells c e s)->∀ p,g.F b p=none:=by
  intro b x hx hne p
  cases hv:g.F b p with
  | none=>rfl
  | some v =>
   have:=hS.froz b p v hv
   simp only [World.cell?,hx] at this
   cases x <;> first | (exact absurd rfl (hne _ _ _)) | (simp at this)
 cases o with
 | dead=>exact absurd rfl hd
 | cells cs e sz grow=>obtain ⟨i,c,h1,_,h2,h3,_,_,_,_,_,_,h10⟩:=h; exact ⟨i,_,h1,h2,h3,h10⟩
 | tok n e sz=>simp [zJY] at ht
 | map es=>obtain ⟨i,ms,cl,h1,h2,h3,_⟩:=h; exact ⟨i,_,h1,h2,h3,key h3 (by simp)⟩
 | siter s pos=>obtain ⟨i,h1,h2,h3⟩:=h; exact ⟨i,_,h1,h2,h3,key h3 (by simp)⟩
 | loop l=>obtain ⟨i,r,h1,h2,h3,_⟩:=h; exact ⟨i,_,h1,h2,h3,key h3 (by simp)⟩
 | cmap es=>obtain ⟨i,ms,cl,es',h1,h2,h3,_⟩:=h; exact ⟨i,_,h1,h2,h3,key h3 (by simp)⟩

def zK0 (g:zA2) (σ:zA6) (b:Nat):Prop:=∃ id i,σ.objs id ≠ .dead/\zJY (σ.objs id)=false/\g.info id=some i/\i.blk=b

open Classical in
noncomputable def bareG (g:zA2) (σ:zA6) (w:World):zA2:=⟨g.F,fun _=>none,fun b=>if zK0 g σ b then w.heap[b]? else g.R b⟩

open Classical in
theorem Sim.bare (hS:Sim B w0 g σ w):Sim B w0 (bareG g σ w) zJZ w where
 below:=hS.below
 size:=hS.size
 froz:=hS.froz
 objs id:=trivial
 inj i j pi pj h1:=by cases h1
 next id _:=⟨rfl,rfl⟩
 res b x hb:=by
  change (if zK0 g σ b then w.heap[b]? else g.R b)=some x at hb
  split at hb
  ·exact hb
  ·exact hS.res b x hb
 resF b o x hb:=by
  change (if zK0 g σ b then w.heap[b]? else g.R b)=some x at hb
  split at hb
  ·rename_i hh
   obtain ⟨id,i,h1,h2,h3,rfl⟩:=hh
   obtain ⟨i',_,h4,_,_,h5⟩:=(hS.objs id).noF hS h1 h2
   rw [h3] at h4; cases h4
   exact h5 o
  ·exact hS.resF b o x hb
 resO id i h1:=absurd rfl h1

open Classical in
theorem Sim.unbare {g':zA2} {σ':zA6} {w':World} (hS:Sim B w0 g σ w) (hS':Sim B w0 g' σ' w') (hle:(bareG g σ w).Le g') :
  Sim B w0 ⟨g'.F,g.info,g.R⟩ σ.untok w'/\g.Le ⟨g'.F,g.info,g.R⟩:=by
 have hle2:g.Le ⟨g'.F,g.info,g.R⟩:=⟨fun b o v h=>hle.F b o v h,fun _ _ h=>h,rfl⟩
 have hR:∀ b,g'.R b=if zK0 g σ b then w.heap[b]? else g.R b:=fun b=>by rw [hle.R]; rfl
 have held:∀ id i,σ.objs id ≠ .dead->zJY (σ.objs id)=false->g.info id=some i->w'.heap[i.blk]? = w.heap[i.blk]? /\ ∀ p,g'.F i.blk p=none:=by
  intro id i h1 h2 h3
  obtain ⟨i',x,h4,_,h5,h6⟩:=(hS.objs id).noF hS h1 h2
  rw [h3] at h4; cases h4
  have hh:zK0 g σ i.blk:=⟨id,i,h1,h2,h3,rfl⟩
  have hx:g'.R i.blk=some x:=by rw [hR,if_pos hh,h5]
  exact ⟨by rw [hS'.res _ _ hx,h5],fun p=>hS'.resF _ p _ hx⟩
 have hun:∀ id,σ.untok.objs id ≠ .dead->σ.objs id ≠ .dead/\zJY (σ.objs id)=false/\σ.untok.objs id=σ.objs id:=by
  intro id hid
  unfold zA6.untok at hid ⊢
  dsimp only at hid ⊢
  cases ho:σ.objs id <;> rw [ho] at hid <;> simp_all [zJY]
 refine ⟨⟨hS'.below,hS'.size,hS'.froz,fun id => ?_,fun i j pi pj h1 h2 h3 h4 h5=>hS.inj i j pi pj h1 h2 (hun i h3).1 (hun j h4).1 h5,fun id hid => ?_,fun b x hb => ?_,fun b o x hb => ?_,fun id i h1 h2=>hS.resO id i (hun id h1).1 h2⟩,hle2⟩
 ·by_cases hd:σ.untok.objs id = .dead
  ·rw [hd]; trivial
  ·obtain ⟨h1,h2,h3⟩:=hun id hd
   rw [h3]
   refine (hS.objs id).keep hle2 (fun i hi=>(held id i h1 h2 hi).1) (fun i b hi _ => ?_)
   have hk:=(held id i h1 h2 hi).2 b
   show g'.F i.blk b=g.F i.blk b
   rw [hk]
   cases hv:g.F i.blk b with
   | none=>rfl
   | some v=>have:=hle.F _ _ v hv; rw [hk] at this; cases this
 ·refine ⟨(hS.next id hid).1,?_⟩
  rcases σ.untok_le.objs id with e | e
  ·rw [e]; exact (hS.next id hid).2
  ·exact e
 ·have hb':g.R b=some x:=hb
  have:¬ zK0 g σ b:=by
   rintro ⟨id,i,h1,h2,h3,rfl⟩
   rw [hS.resO id i h1 h3] at hb'; cases hb'
  exact hS'.res b x (by rw [hR,if_neg this]; exact hb')
 ·have hb':g.R b=some x:=hb
  have:¬ zK0 g σ b:=by
   rintro ⟨id,i,h1,h2,h3,rfl⟩
   rw [hS.resO id i h1 h3] at hb'; cases hb'
  exact hS'.resF b o x (by rw [hR,if_neg this]; exact hb')
end

theorem zDV.pure {E:Env} {f:Nat} {args:List AV} {Q0 Q:AV->zA6->Prop} {σ:zA6} (hG:∀ i,zJV (E.G i)) (ha:∀ x∈args,zJV x) (h:zDV E f args zJZ Q0)
  (hQ:∀ v σ',Q0 v σ'->∃ v',Wk v v'/\zJV v'/\Q v' σ.untok):zDV E f args σ Q:=by
 refine ⟨fun g w vs hRG hS hv => ?_⟩
 refine (h.run (bareG g σ w) w vs (fun i=>hG i g _ _ (fun _ _ _ h=>h) (hRG i)) hS.bare ⟨hv.1,fun i h1 h2=>ha _ (List.getElem_mem h1) g _ _ (fun _ _ _ h=>h) (hv.2 i h1 h2)⟩).mono fun e w' k => ?_
 cases e with
 | returned u =>
  obtain ⟨g',σ',a,h1,h2,h3,h4⟩:=k
  obtain ⟨v',h5,h6,h7⟩:=hQ _ _ h4
  obtain ⟨h8,h9⟩:=hS.unbare h2 h1
  exact ⟨_,_,v',h9,h8,h6 g' _ u (fun _ _ _ h=>h) (h5 _ _ h3),h7⟩
 | outgrown=>exact k
 | panicked c=>exact k
end Go.V
namespace Go.V
open Go.RowKit

def zK1:Cap->Cap
 | .tok _ => .nn
 | m=>m

def deep (P:Program) (σ:zA6):Nat->AV->Option AV
 | 0,_=>none
 | n+1,v=>match v with
  | .undef | .bool _ | .int _ _ | .str _ | .nilptr | .nilslice | .nilmap | .nilfunc | .niliface=>some v
  | .slice sz xs m=>(xs.mapM (deep P σ n)).map fun ys => .slice sz ys (zK1 m)
  | .rslice id off len=>match σ.objs id with
   | .cells cs e sz _=>match zAC P e with
    | some k=>match Nat.beq (k.getD 1) sz&&(Nat.blt 0 sz&&Nat.ble ((off+len)*sz) cs.length) with
     | true=>((zAH k ((cs.drop (off*sz)).take (len*sz)) len).mapM (deep P σ n)).map fun ys => .slice sz ys .nn
     | false=>none
    | none=>none
   | _=>none
  | .ptr id off=>match σ.objs id with
   | .cells cs _ _ _=>match Nat.ble off cs.length with
    | true=>((cs.drop off).mapM (deep P σ n)).map .vptr
    | false=>none
   | _=>none
  | .vptr cs=>(cs.mapM (deep P σ n)).map .vptr
  | .agg cs=>(cs.mapM (deep P σ n)).map .agg
  | .tuple cs=>(cs.mapM (deep P σ n)).map .tuple
  | .iface t v=>(deep P σ n v).map (.iface t)
  | .func fn fs cs=>(fs.mapM (deep P σ n)).bind fun fs'=>(cs.mapM (deep P σ n)).map fun cs' => .func fn fs' cs'
  | _=>none

theorem zK2 {f:AV->Option AV}:∀ {xs ys:List AV},xs.mapM f=some ys->ys.length=xs.length/\∀ i (h:i<xs.length) (h':i<ys.length),f xs[i]=some ys[i]
 | [],ys,h=>by simp at h; subst h; exact ⟨rfl,fun i h=>by simp at h⟩
 | x :: xs,ys,h=>by
  simp only [List.mapM_cons] at h
  cases hx:f x with
  | none=>simp [hx] at h
  | some y =>
   cases hxs:xs.mapM f with
   | none=>simp [hx,hxs] at h
   | some ys' =>
    simp [hx,hxs] at h
    subst h
    obtain ⟨h1,h2⟩:=zK2 hxs
    refine ⟨by simp [h1],fun i a b => ?_⟩
    cases i with
    | zero=>exact hx
    | succ i=>exact h2 i (by simpa using a) (by simpa using b)

theorem zK3 {P:Program} {σ:zA6} {n:Nat} {x y:AV} (h:deep P σ n x=some y):(∃ cs ds m,n=m+1/\x = .agg cs/\y = .agg ds/\cs.mapM (deep P σ m)=some ds)\/((∀ cs,x ≠ .agg cs)/\(∀ cs,y ≠ .agg cs)/\(x.one=true->y.one=true)):=by
 cases n with
 | zero=>simp [deep] at h
 | succ n =>
  cases x with
  | agg cs =>
   simp only [deep,Option.map_eq_some_iff] at h
   obtain ⟨ds,h1,rfl⟩:=h
   exact .inl ⟨cs,ds,n,rfl,rfl,rfl,h1⟩
  | _ =>
   right
   refine ⟨by simp,?_,?_⟩ <;> (simp only [deep] at h; repeat' (first | (split at h) | (simp only [Option.bind_eq_some_iff,Option.map_eq_some_iff] at h; obtain ⟨_,_,_,_,rfl⟩:=h) | (simp only [Option.map_eq_some_iff] at h; obtain ⟨_,_,rfl⟩:=h) | (cases h)) ) <;> simp [AV.one]

def zK4 (g:zA2) (σ:zA6) (b:Nat):Prop:=∃ id i cs e sz gr,σ.objs id = .cells cs e sz gr/\g.info id=some i/\i.blk=b
open Classical in
noncomputable def frzAll (g:zA2) (σ:zA6) (w:World):zA2:=⟨fun b o=>if zK4 g σ b then w.cell? ⟨b,o,none⟩ else g.F b o,g.info,g.R⟩

def zA6.none (σ:zA6):zA6:=⟨fun _ => .dead,σ.next⟩

section
variable {P:Program} {B:Nat} {w0:World} {g:zA2} {σ:zA6} {w:World}
open Classical in
theorem Sim.frzAll (hS:Sim B w0 g σ w):g.Le (frzAll g σ w)/\Sim B w0 (frzAll g σ w) σ.none w:=by
 have hF:∀ b o,(Go.V.frzAll g σ w).F b o=if zK4 g σ b then w.cell? ⟨b,o,Option.none⟩ else g.F b o:=fun _ _=>rfl
 have hno:∀ b,zK4 g σ b->g.R b=Option.none:=by
  rintro b ⟨id,i,cs,e,sz,gr,h1,h2,rfl⟩
  exact hS.resO id i (by rw [h1]; simp) h2
 refine ⟨⟨fun b o v h => ?_,fun _ _ h=>h,rfl⟩,hS.below,hS.size,fun b o v h => ?_,fun id=>trivial,fun i j pi pj _ _ h=>absurd rfl h,fun id hid=>⟨(hS.next id hid).1,rfl⟩,hS.res,fun b o x h => ?_,fun id i h=>absurd rfl h⟩
 ·rw [hF]
  split
  ·exact hS.froz b o v h
  ·exact h
 ·rw [hF] at h
  split at h
  ·exact h
  ·exact hS.froz b o v h
 ·rw [hF]
  split
  ·rename_i hh
   have:=hno b hh
   have h':g.R b=some x:=h
   rw [this] at h'; cases h'
  ·exact hS.resF b o x h

open Classical in
theorem deep_ok (hS:Sim B w0 g σ w):∀ (n:Nat) (v v':AV) (u:Value),RV g v u->deep P σ n v=some v'->RV (Go.V.frzAll g σ w) v' u:=by
 have hle:=hS.frzAll.1
 intro n
 induction n with
 | zero=>intro v v' u _ h; simp [deep] at h
 | succ n ih =>
  -- element by element
  have ihL:∀ {xs ys:List AV} {us:List Value},RVL g xs us->xs.mapM (deep P σ n)=some ys->RVL (Go.V.frzAll g σ w) ys us:=by
   intro xs ys us hr hm
   obtain ⟨h1,h2⟩:=zK2 hm
   exact ⟨by rw [h1]; exact hr.1,fun i a b=>ih _ _ _ (hr.2 i (by omega) b) (h2 i (by omega) a)⟩
  -- the cells of elements
  have ihF:∀ {xs ys:List AV} {us:List Value} {sz:Nat},(∀ x∈xs,x.cells.length=sz)->(zA0 xs).all AV.one=true->RVL g (zA0 xs) us->xs.mapM (deep P σ n)=some ys ->
    RVL (Go.V.frzAll g σ w) (zA0 ys) us/\(∀ y∈ys,y.cells.length=sz)/\(zA0 ys).all AV.one=true:=by
   intro xs
   induction xs with
   | nil =>
    intro ys us sz hsz h1 hr hm
    simp at hm; subst hm
    have:us=[]:=by simpa [zA0] using hr.nil_inv
    subst this
    exact ⟨RVL.nil _,by simp,by simp [zA0]⟩
   | cons x xs ihx =>
    intro ys us sz hsz h1 hr hm
    simp only [List.mapM_cons] at hm
    cases hx:deep P σ n x with
    | none=>simp [hx] at hm
    | some y =>
     cases hxs:xs.mapM (deep P σ n) with
     | none=>simp [hx,hxs] at hm
     | some ys' =>
      simp [hx,hxs] at hm
      subst hm
      rw [zC3] at h1 hr
      rw [List.all_append,Bool.and_eq_true] at h1
      have hus:us=us.take x.cells.length++us.drop x.cells.length:=(List.take_append_drop _ _).symm
      have hr1:RVL g x.cells (us.take x.cells.length):=by
       have:=hr.take x.cells.length
       simpa using this
      have hr2:RVL g (zA0 xs) (us.drop x.cells.length):=by
       have:=hr.drop x.cells.length
       simpa using this
      obtain ⟨k1,k2,k3⟩:=ihx (fun z hz=>hsz z (by simp [hz])) h1.2 hr2 hxs
      have key:RVL (Go.V.frzAll g σ w) y.cells (us.take x.cells.length)/\y.cells.length=x.cells.length/\y.cells.all AV.one=true:=by
       rcases zK3 hx with ⟨cs,ds,m,rfl,rfl,rfl,hm⟩ | ⟨h3,h4,h5⟩
       ·-- an aggregate: its cells come by the same steps
        obtain ⟨l1,l2⟩:=zK2 hm
        have hagg:RVL (Go.V.frzAll g σ w) ds (us.take cs.length):=by
         have hra:RV g (.agg cs) (.agg (us.take cs.length).toArray):=RV.agg' (by simpa [AV.cells] using hr1)
         have:=ih (.agg cs) (.agg ds) _ hra hx
         obtain ⟨vs,e,k⟩:=this.agg_inv
         cases e
         simpa using k
        refine ⟨by simpa [AV.cells] using hagg,by simpa [AV.cells] using l1,?_⟩
        have h1':cs.all AV.one=true:=h1.1
        rw [List.all_eq_true] at h1' ⊢
        intro z hz
        obtain ⟨i,hi,rfl⟩:=List.getElem_of_mem hz
        have hi':i<ds.length:=hi
        have hd:=l2 i (by omega) hi'
        have ho:=h1' cs[i] (List.getElem_mem _)
        rcases zK3 hd with ⟨cs',_,_,_,e,_⟩ | ⟨_,_,h7⟩
        ·rw [e] at ho; simp [AV.one] at ho
        ·exact h7 ho
       ·have hc:x.cells=[x]:=by cases x <;> first | rfl | exact absurd rfl (h3 _)
        have hcy:y.cells=[y]:=by cases y <;> first | rfl | exact absurd rfl (h4 _)
        rw [hc] at hr1 h1
        obtain ⟨u1,us1,e1,h6,h7⟩:=hr1.cons_inv
        have:=h7.nil_inv
        subst this
        rw [hc,hcy,e1]
        refine ⟨.cons (ih _ _ _ h6 hx) (.nil _),rfl,?_⟩
        have:=h1.1
        simp only [List.all_cons,List.all_nil,Bool.and_true] at this ⊢
        exact h5 this
      refine ⟨?_,fun z hz => ?_,?_⟩
      ·rw [zC3,hus]; exact key.1.append k1
      ·rcases List.mem_cons.1 hz with rfl | hz
       ·rw [key.2.1]; exact hsz x (by simp)
       ·exact k2 z hz
      ·rw [zC3,List.all_append,key.2.2,k3]; rfl
  intro v v' u hr h
  cases v with
  | undef=>simp [deep] at h; subst h; exact hr.mono hle
  | bool b=>simp [deep] at h; subst h; exact hr.mono hle
  | int k m=>simp [deep] at h; subst h; exact hr.mono hle
  | str s=>simp [deep] at h; subst h; exact hr.mono hle
  | nilptr=>simp [deep] at h; subst h; exact hr.mono hle
  | nilslice=>simp [deep] at h; subst h; exact hr.mono hle
  | nilmap=>simp [deep] at h; subst h; exact hr.mono hle
  | nilfunc=>simp [deep] at h; subst h; exact hr.mono hle
  | niliface=>simp [deep] at h; subst h; exact hr.mono hle
  | map id=>simp [deep] at h
  | view id off len=>simp [deep] at h
  | yield id=>simp [deep] at h
  | func fn fs cs =>
   simp only [deep,Option.bind_eq_some_iff,Option.map_eq_some_iff] at h
   obtain ⟨fs',h1,cs',h2,rfl⟩:=h
   obtain ⟨us,vs,rfl,k1,k2⟩:=hr.func_inv
   exact RV.func' (ihL k1 h1) (ihL k2 h2)
  | agg cs =>
   simp only [deep,Option.map_eq_some_iff] at h
   obtain ⟨ds,h1,rfl⟩:=h
   obtain ⟨vs,rfl,k⟩:=hr.agg_inv
   exact .agg' (ihL k h1)
  | tuple cs =>
   simp only [deep,Option.map_eq_some_iff] at h
   obtain ⟨ds,h1,rfl⟩:=h
   obtain ⟨vs,rfl,k⟩:=hr.tuple_inv
   exact .tuple' (ihL k h1)
  | iface t x =>
   simp only [deep,Option.map_eq_some_iff] at h
   obtain ⟨y,h1,rfl⟩:=h
   cases hr with
   | iface _ _ u hr=>exact .iface t y u (ih _ _ _ hr h1)
  | vptr cs =>
   simp only [deep,Option.map_eq_some_iff] at h
   obtain ⟨ds,h1,rfl⟩:=h
   cases hr with
   | vptr _ b o vs hl hF hrr =>
    have k:=ihL ⟨hl,hrr⟩ h1
    exact .vptr ds b o vs k.1 (fun i hi=>hle.F _ _ _ (hF i hi)) k.2
  | ptr id off =>
   simp only [deep] at h
   split at h
   case h_2=>cases h
   rename_i cs e sz gr ho
   split at h
   case h_2=>cases h
   rename_i hle2
   simp only [Option.map_eq_some_iff] at h
   obtain ⟨ds,h1,rfl⟩:=h
   obtain ⟨i,c,hi,hs,hB,hh,hlc,hg,hct,hmx,hrc,h1c,hFn⟩:=hS.cells ho
   cases hr with
   | ptr _ _ i' hi' =>
    rw [hi] at hi'; cases hi'
    have k:=ihL (hrc.drop off) h1
    refine .vptr ds i.blk off ((c.toList.take cs.length).drop off) k.1 (fun j hj => ?_) k.2
    show (if zK4 g σ i.blk then w.cell? ⟨i.blk,off+j,Option.none⟩ else g.F i.blk (off+j))=_
    rw [if_pos ⟨id,i,cs,e,sz,gr,ho,hi,rfl⟩]
    have hj2:off+j<c.size:=by simp at hj; omega
    simp only [World.cell?,hh,Option.isSome_none,Bool.false_eq_true,if_false]
    simp [hj2]
  | slice sz xs m =>
   simp only [deep,Option.map_eq_some_iff] at h
   obtain ⟨ys,h1,rfl⟩:=h
   cases hr with
   | slice _ _ _ a cap vs hsz hl hsp hF h1c hrr hcap hm =>
    obtain ⟨k1,k2,k3⟩:=ihF hsz h1c ⟨hl,hrr⟩ h1
    have hyl:=(zK2 h1).1
    rw [<-hyl]
    refine .slice sz ys (zK1 m) a cap vs k2 k1.1 hsp (fun i hi=>hle.F _ _ _ (hF i hi)) k3 k1.2 (by omega) ?_
    cases m with
    | any=>trivial
    | nn=>trivial
    | full=>simp only [zA3] at hm; simp only [zK1,zA3]; omega
    | tok id=>trivial
   | nilany =>
    simp at h1; subst h1
    exact .nilany sz
  | rslice id off len =>
   simp only [deep] at h
   split at h
   case h_2=>cases h
   rename_i cs e sz gr ho
   split at h
   case h_2=>cases h
   rename_i k hk
   split at h
   case h_2=>cases h
   rename_i hc
   simp only [Bool.and_eq_true] at hc
   have hc1:k.getD 1=sz:=Nat.eq_of_beq_eq_true hc.1
   have hc2:0<sz:=by have:=hc.2.1; simp [Nat.blt] at this; omega
   have hc3:(off+len)*sz<=cs.length:=Nat.le_of_ble_eq_true hc.2.2
   simp only [Option.map_eq_some_iff] at h
   obtain ⟨ys,h1,rfl⟩:=h
   obtain ⟨i,c,hi,hs,hB,hh,hlc,hg,hct,hmx,hrc,h1c,hFn⟩:=hS.cells ho
   cases hr with
   | rslice _ _ _ i' a cap hi' hadr hcap hlen =>
    rw [hi] at hi'; cases hi'
    have hone:cs.all AV.one=true:=h1c
    have hmul:(off+len)*sz=off*sz+len*sz:=Nat.add_mul ..
    have hone':((cs.drop (off*sz)).take (len*sz)).all AV.one=true:=by
     rw [List.all_eq_true] at hone ⊢
     exact fun x hx=>hone x (List.mem_of_mem_drop (List.mem_of_mem_take hx))
    have hl':len*sz<=((cs.drop (off*sz)).take (len*sz)).length:=by simp; omega
    have hln:=zCI k ((cs.drop (off*sz)).take (len*sz)) len sz hc1 hl'
    have hfl:=zCJ k ((cs.drop (off*sz)).take (len*sz)) len sz hc1 hl' hone'
    have hrf:RVL g (zA0 (zAH k ((cs.drop (off*sz)).take (len*sz)) len)) (((c.toList.take cs.length).drop (off*sz)).take (len*sz)):=by
     rw [hfl,List.take_take,Nat.min_self]
     exact (hrc.drop _).take _
    obtain ⟨k1,k2,k3⟩:=ihF (zCK k _ len sz hc1 hl' hone') (by rw [hfl,List.take_take,Nat.min_self]; exact hone') hrf h1
    have hyl:ys.length=len:=by rw [(zK2 h1).1,hln]
    have key:∀ (hp:0<len),a=⟨i.blk,off*i.sz,Option.none⟩:=fun hp=>hadr.resolve_right (by omega)
    have hvl:(((c.toList.take cs.length).drop (off*sz)).take (len*sz)).length=len*sz:=by simp; omega
    have:=RV.slice (g:=Go.V.frzAll g σ w) sz ys .nn a cap _ k2 k1.1 (fun hp=>by
      have:0<len:=by
       rcases Nat.eq_zero_or_pos len with e | e
       ·subst e; simp at hp
       ·exact e
      rw [key this]) (fun j hj=>by
      have hj':j<len*sz:=by rw [hvl] at hj; exact hj
      have hp:0<len:=by
       rcases Nat.eq_zero_or_pos len with e | e
       ·subst e; simp at hj'
       ·exact e
      rw [key hp,hs]
      show (if zK4 g σ i.blk then w.cell? ⟨i.blk,off*sz+j,Option.none⟩ else g.F i.blk (off*sz+j))=_
      rw [if_pos ⟨id,i,cs,e,sz,gr,ho,hi,rfl⟩]
      have hj2:off*sz+j<c.size:=by omega
      simp only [World.cell?,hh,Option.isSome_none,Bool.false_eq_true,if_false]
      simp [hj2]) k3 k1.2 (by omega) trivial
    rw [hyl] at this
    exact this
end

theorem zDV.pureD {E:Env} {f:Nat} {args:List AV} {Q0 Q:AV->zA6->Prop} {σ:zA6} (n:Nat) (hG:∀ i,zJV (E.G i)) (ha:∀ x∈args,zJV x) (h:zDV E f args zJZ Q0)
  (hQ:∀ v σ',Q0 v σ'->∃ v' v'',deep E.P σ' n v=some v'/\Wk v' v''/\zJV v''/\Q v'' σ.untok):zDV E f args σ Q:=by
 have h':zDV E f args zJZ (fun v σ'=>∃ v',Wk v v'/\zJV v'/\Q v' σ.untok):=by
  refine ⟨fun g w vs hRG hS hv=>(h.run g w vs hRG hS hv).mono fun e w' k => ?_⟩
  cases e with
  | returned u =>
   obtain ⟨g',σ',a,h1,h2,h3,h4⟩:=k
   obtain ⟨v',v'',h5,h6,h7,h8⟩:=hQ _ _ h4
   obtain ⟨h9,h10⟩:=h2.frzAll
   exact ⟨_,_,v',h1.trans h9,h10,deep_ok h2 n a v' u h3 h5,v'',h6,h7,h8⟩
  | outgrown=>exact k
  | panicked c=>exact k
 exact .pure hG ha h' fun v σ' k=>k
end Go.V

namespace Go.V
open Go.RowKit

structure LS (X:Type) where
 F:X->List (Nat×TV)
 FL:X->List (Nat×List AV)
 S:X->zA6
 I:X->Prop
 μ:X->Nat
 Ex:X->Exit->zDN->zA6->Prop

def LS.post {X:Type} (l:LS X) (x:X):zDW:=fun e a σ=>match e with
 | .normal=>∃ x',(l.I x'/\l.μ x'<l.μ x)/\atF a (l.F x') (l.FL x') ((l.S x').Le σ)
 | e=>l.Ex x e a σ

section
variable {E:Env} {rd:Option Nat} {n:Nat} {σ:zA6} {a:zDN}
theorem zK5 {X:Type} (l:LS X) {c:Code} {Q:zDW} (hb:∀ x,l.I x->AWp E rd n c (l.post x) (frm (l.F x) (l.FL x)) (l.S x))
  (hx:∀ x,l.I x->∀ e a σ,e ≠ .normal->l.Ex x e a σ->∃ a' σ',a'.Wk a/\σ'.Le σ/\Q e a' σ')
  {x0:X} (h0:l.I x0) (ha:atF a (l.F x0) (l.FL x0) ((l.S x0).Le σ)):AWp E rd n (.loop c) Q a σ:=by
 refine .post_wk (zEK (fun k a σ=>∃ x,l.I x/\l.μ x=k/\(frm (l.F x) (l.FL x)).Wk a/\(l.S x).Le σ) (m:=l.μ x0) ⟨x0,h0,rfl,(zJM ha).1,(zJM ha).2⟩ ?_)
 rintro k a σ ⟨x,hI,rfl,h1,h2⟩
 refine .pre_wk h1 h2 ((hb x hI).mono fun e a σ k => ?_)
 cases e with
 | normal =>
  obtain ⟨x',⟨h3,h4⟩,h5⟩:=k
  exact ⟨l.μ x',h4,x',h3,rfl,(zJM h5).1,(zJM h5).2⟩
 | _=>exact hx x hI _ _ _ (by simp) k
end
end Go.V
namespace Go.V
open Go.RowKit

abbrev zK6 (R:Type):=R->Option (Nat×zA5)

structure At {R:Type} (c:zK6 R) (σ:zA6):Prop where
 at_:∀ r id o,c r=some (id,o)->id<σ.next/\σ.objs id=o
 inj:∀ r s id o o',c r=some (id,o)->c s=some (id,o')->r=s

def hup {R:Type} [DecidableEq R] (c:zK6 R) (r:R) (x:Option (Nat×zA5)):zK6 R:=fun s=>if s=r then x else c s

section
variable {R:Type} [DecidableEq R] {c:zK6 R} {σ:zA6} {r:R} {id:Nat} {o o':zA5}
theorem zK7 {x:Option (Nat×zA5)}:hup c r x r=x:=if_pos rfl
theorem zK8 {x:Option (Nat×zA5)} {s:R} (h:s≠r):hup c r x s=c s:=if_neg h

omit [DecidableEq R] in
theorem At.obj (h:At c σ) (hr:c r=some (id,o)):σ.objs id=o:=(h.at_ _ _ _ hr).2
omit [DecidableEq R] in
theorem At.lt (h:At c σ) (hr:c r=some (id,o)):id<σ.next:=(h.at_ _ _ _ hr).1

theorem At.set (h:At c σ) (hr:c r=some (id,o)) (o':zA5):At (hup c r (some (id,o'))) (σ.set id o') where
 at_ s i p hs:=by
  unfold hup at hs
  split at hs
  ·cases hs; exact ⟨h.lt hr,if_pos rfl⟩
  ·rename_i hn
   refine ⟨(h.at_ _ _ _ hs).1,?_⟩
   show (if i=id then o' else σ.objs i)=p
   rw [if_neg (fun e=>hn (h.inj s r id p o (by rw [<-e]; exact hs) hr))]
   exact (h.at_ _ _ _ hs).2
 inj s t i p q hs ht:=by
  unfold hup at hs ht
  split at hs
  ·cases hs
   rename_i e1
   split at ht
   ·rename_i e2; rw [e1,e2]
   ·rw [e1]; exact (h.inj _ _ _ _ _ ht hr).symm
  ·split at ht
   ·rename_i e2; cases ht; rw [e2]; exact h.inj _ _ _ _ _ hs hr
   ·exact h.inj _ _ _ _ _ hs ht
theorem At.drop (h:At c σ) (r:R):At (hup c r none) σ where
 at_ s i p hs:=by
  unfold hup at hs
  split at hs
  ·cases hs
  ·exact h.at_ _ _ _ hs
 inj s t i p q hs ht:=by
  unfold hup at hs ht
  split at hs
  ·cases hs
  ·split at ht
   ·cases ht
   ·exact h.inj _ _ _ _ _ hs ht
theorem zK9 {x y:Option (Nat×zA5)}:hup (hup c r x) r y=hup c r y:=by
 funext s; unfold hup; split <;> rfl
theorem At.kill (h:At c σ) (hr:c r=some (id,o)):At (hup c r none) (σ.set id .dead):=by
 have:=(h.set hr .dead).drop r
 rwa [zK9] at this
theorem At.new (h:At c σ) (r:R) (o:zA5):At (hup c r (some (σ.next,o))) (σ.new o) where
 at_ s i p hs:=by
  unfold hup at hs
  split at hs
  ·cases hs; exact ⟨Nat.lt_succ_self _,if_pos rfl⟩
  ·have:=h.at_ _ _ _ hs
   refine ⟨Nat.lt_succ_of_lt this.1,?_⟩
   show (if i=σ.next then o else σ.objs i)=p
   rw [if_neg (by omega)]; exact this.2
 inj s t i p q hs ht:=by
  unfold hup at hs ht
  split at hs
  ·cases hs
   rename_i e1
   split at ht
   ·rename_i e2; rw [e1,e2]
   ·have:=h.lt ht; omega
  ·split at ht
   ·cases ht; have:=h.lt hs; omega
   ·exact h.inj _ _ _ _ _ hs ht
theorem At.grow (h:At c σ) (hr:c r=some (id,o)) (o':zA5):At (hup c r (some (σ.next,o'))) ((σ.set id .dead).new o'):=by
 have:=(h.kill hr).new r o'
 rwa [zK9] at this
end
end Go.V
namespace Go.V
open Go.RowKit

def zKA:Code->Option Nat
 | .region id _ _=>some id
 | .seq a _=>zKA a
 | .loop c=>zKA c
 | .block _ c=>zKA c
 | _=>none
def isCut (cuts:List Nat) (y:Code):Bool :=
 match zKA y with
 | some id=>cuts.any fun x=>Nat.beq x id
 | none=>false

def zKB (cuts:List Nat):Code->List Code
 | .seq a b=>zKB cuts a++(match isCut cuts b with | true=>[b] | false=>zKB cuts b)
 | .cond _ a b=>zKB cuts a++zKB cuts b
 | .block _ c=>zKB cuts c
 | .loop c=>[.loop c]
 | .rangeFunc f ps x y=>[.rangeFunc f ps x y]
 | _=>[]

def wpX (cuts:List Nat) (E:Env) (H:zDY) (L:zFV) (an:zDM) (hs:zIE):Code->zDW->zDN->zA6->Prop
 | .seq x y,Q,a,σ=>wpX cuts E H L an hs x (fun e a σ=>match e with
  | .normal=>(match isCut cuts y with | true=>L y Q a σ | false=>wpX cuts E H L an hs y Q a σ)
  | e=>Q e a σ) a σ
 | .cond c x y,Q,a,σ=>match (zDO E.G a c).low with
  | .bool b=>bcase b (wpX cuts E H L an hs x Q (a.setC c true) σ) (wpX cuts E H L an hs y Q (a.setC c false) σ)
  | _=>False
 | .block id c,Q,a,σ=>wpX cuts E H L an hs c (fun e a σ=>match e with | .exit id'=>(match Nat.beq id' id with | true=>Q .normal a σ | false=>Q (.exit id') a σ) | e=>Q e a σ) a σ
 | .loop c,Q,a,σ=>L (.loop c) Q a σ
 | .rangeFunc f ps x y,Q,a,σ=>L (.rangeFunc f ps x y) Q a σ
 | .skip,Q,a,σ=>Q .normal a σ
 | .region id ops false,Q,a,σ=>opsC E H an hs id ops ops.toList 0 (Q .normal) a σ
 | .region id ops true,Q,a,σ=>zIN E H an hs id ops (zFW ops) (an.eff id) ((an.eff id).length+1) [] (Q .normal) a σ
 | .exit id,Q,a,σ=>Q (.exit id) a σ
 | .ret,Q,a,σ=>Q .ret a σ
 | _,_,_,_=>False

section
variable {E:Env} {H:zDY} {rd:Option Nat} {n:Nat} {an:zDM} {hs:zIE} {cuts:List Nat}
theorem zKC (hH:zIP E H) (hm:E.P.follows .mixedOrders=true) {L:zFV}:∀ (c:Code) (Q:zDW) (a:zDN) (σ:zA6),(∀ l∈zKB cuts c,zFX n an l=true->∀ Q a σ,L l Q a σ->AWp E rd n l Q a σ)->zFX n an c=true->wpX cuts E H L an hs c Q a σ->AWp E rd n c Q a σ
 | .skip,Q,a,σ,hL,_,h=>zED h
 | .region id ops false,Q,a,σ,hL,hc,h=>by
  simp only [zFX,Bool.and_eq_true] at hc
  exact zEC (zE1 E) hc.1 (zIX hH _ _ _ _ h)
 | .region id ops true,Q,a,σ,hL,hc,h=>by
  simp only [zFX,Bool.and_eq_true,Bool.not_true,Bool.false_or] at hc
  exact zFU (zE1 E) hm hc.1 hc.2 (zJ3 hH _ _ _ _ _ h)
 | .seq x y,Q,a,σ,hL,hc,h=>by
  simp only [zFX,Bool.and_eq_true] at hc
  refine zEG ((zKC hH hm x _ a σ (fun l hl=>hL l (List.mem_append_left _ hl)) hc.1 h).mono fun e a σ k => ?_)
  have key:(match isCut cuts y with | true=>L y Q a σ | false=>wpX cuts E H L an hs y Q a σ)->AWp E rd n y Q a σ:=by
   intro k
   split at k
   ·rename_i e
    exact hL y (by simp only [zKB]; rw [e]; simp) hc.2 _ _ _ k
   ·rename_i e
    exact zKC hH hm y Q a σ (fun l hl=>hL l (by simp only [zKB]; rw [e]; exact List.mem_append_right _ hl)) hc.2 k
  cases e <;> first | exact key k | exact k
 | .cond c x y,Q,a,σ,hL,hc,h=>by
  simp only [zFX,Bool.and_eq_true] at hc
  simp only [wpX] at h
  split at h
  ·rename_i b hb
   refine zEH hb (fun e => ?_) (fun e => ?_)
   ·subst e; rw [zFY hb] at h; exact zKC hH hm x Q _ σ (fun l hl=>hL l (List.mem_append_left _ hl)) hc.1 h
   ·subst e; simp only [bcase] at h; rw [zFY hb] at h; exact zKC hH hm y Q _ σ (fun l hl=>hL l (List.mem_append_right _ hl)) hc.2 h
  ·exact h.elim
 | .block id c,Q,a,σ,hL,hc,h=>by
  refine zEI ((zKC hH hm c _ a σ hL hc h).mono fun e a σ k => ?_)
  cases e with
  | exit id' =>
   simp only at k ⊢
   split at k
   ·rename_i e; rw [if_pos (by simpa using e)]; exact k
   ·rename_i e; rw [if_neg (by rintro rfl; rw [Nat.beq_refl] at e; cases e)]; exact k
  | _=>exact k
 | .loop c,Q,a,σ,hL,hc,h=>hL _ (by simp [zKB]) hc _ _ _ h
 | .rangeFunc f ps x y,Q,a,σ,hL,hc,h=>hL _ (by simp [zKB]) hc _ _ _ h
 | .exit id,Q,a,σ,hL,hc,h=>zEE h
 | .ret,Q,a,σ,hL,hc,h=>zEF h
 | .scope c,Q,a,σ,hL,hc,h=>h.elim
 | .label l,Q,a,σ,hL,hc,h=>h.elim
 | .goto l,Q,a,σ,hL,hc,h=>h.elim
 | .refuse y,Q,a,σ,hL,hc,h=>h.elim
end

def zKD (cuts:List Nat) (E:Env) (H:zDY) (L:zFV) (A:Nat->zDM) (hs:zIE) (f:Nat) (args:List AV) (σ:zA6) (Q:AV->zA6->Prop):Prop :=
 match E.P.funcs[f]? with
 | some fn=>match fn.body with
  | some c=>match zFX fn.ntmps (A f) c&&Nat.ble args.length fn.ntmps with
   | true=>wpX cuts E H L (A f) hs c (retC E.P fn.results.toList Q) (zEN args) σ
   | false=>False
  | none=>False
 | none=>False

def zKE (P:Program) (cuts:List Nat) (f:Nat):List Code :=
 match P.funcs[f]? with
 | some fn=>match fn.body with
  | some c=>zKB cuts c
  | none=>[]
 | none=>[]

theorem zKF {cuts:List Nat} {E:Env} {H:zDY} {L:zFV} {A:Nat->zDM} {hs:zIE} {f:Nat} {args:List AV} {σ:zA6} {Q:AV->zA6->Prop} (hm:E.P.follows .mixedOrders=true) (hH:zIP E H)
  (hL:∀ l∈zKE E.P cuts f,zFX (zJ8 E.P f) (A f) l=true->∀ Q a σ,L l Q a σ->AWp E none (zJ8 E.P f) l Q a σ) (h:zKD cuts E H L A hs f args σ Q):zDV E f args σ Q:=by
 unfold zKD at h
 unfold zKE zJ8 at hL
 split at h
 ·rename_i fn hf
  rw [hf] at hL
  dsimp only at hL
  split at h
  ·rename_i c hb
   rw [hb] at hL
   dsimp only at hL
   split at h
   ·rename_i hc
    rw [Bool.and_eq_true] at hc
    exact zEP hf hb (Nat.le_of_ble_eq_true hc.2) ((zKC hH hm c _ _ σ hL hc.1 h).mono fun e a σ k=>zJ5 k)
   ·exact h.elim
  ·exact h.elim
 ·exact h.elim

def zKG (P:Program) (cuts:List Nat) (f i:Nat):Code:=((zKE P cuts f)[i]?).getD .skip
def zKH:Code->Code
 | .loop c=>c
 | c=>c
def zKI (cuts:List Nat) (c:Code):List Code :=
 match zKH c with
 | .seq a b=>zKB cuts (.seq a b)
 | c=>zKB cuts c
def zKJ (cuts:List Nat) (c:Code) (i:Nat):Code:=((zKI cuts c)[i]?).getD .skip

def zKK:List (Nat×zFV)->zFV
 | [],_,_,_,_=>False
 | (i,l) :: r,c,Q,a,σ=>match zKA c with
  | some id=>(match Nat.beq i id with
   | true=>l c Q a σ
   | false=>zKK r c Q a σ)
  | none=>False
theorem zKL {P:Code->zDW->zDN->zA6->Prop} {i:Nat} {l:zFV} {r:List (Nat×zFV)} {c:Code} {Q:zDW} {a:zDN} {σ:zA6} (h:zKK ((i,l) :: r) c Q a σ) (h1:zKA c=some i->l c Q a σ->P c Q a σ) (h2:zKK r c Q a σ->P c Q a σ):P c Q a σ:=by
 unfold zKK at h
 split at h
 ·rename_i id hid
  split at h
  ·rename_i e
   have:i=id:=Nat.eq_of_beq_eq_true e
   subst this; exact h1 hid h
  ·exact h2 h
 ·exact h.elim

end Go.V
