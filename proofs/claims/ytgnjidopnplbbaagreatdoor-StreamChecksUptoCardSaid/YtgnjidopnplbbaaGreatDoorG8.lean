import Derived.Test.YtgnjidopnplbbaaGreatDoorG7
/- The W-layer, part 4: a call without objects may be shown with none, and holds beside all. -/
set_option linter.unusedSimpArgs false
set_option linter.unusedVariables false
namespace Go.V
open Go.RowKit

def NoId (v:AV):Prop:=∀ (g g':Ghost) u,(∀ b o x,g.F b o = some x -> g'.F b o = some x) -> RV g v u -> RV g' v u

theorem NoId.undef:NoId .undef:=fun g g' u hF h => .undef u
theorem NoId.bool (b:Bool):NoId (.bool b):=fun g g' u hF h => by cases h; exact .bool b
theorem NoId.int (k:IntKind) (n:Int):NoId (.int k n):=fun g g' u hF h => by cases h; exact .int k n
theorem NoId.str (s:ByteArray):NoId (.str s):=fun g g' u hF h => by cases h; exact .str s
theorem NoId.nilptr:NoId .nilptr:=fun g g' u hF h => by cases h; exact .nilptr
theorem NoId.nilslice:NoId .nilslice:=fun g g' u hF h => by cases h; exact .nilslice
theorem NoId.nilmap:NoId .nilmap:=fun g g' u hF h => by cases h; exact .nilmap
theorem NoId.nilfunc:NoId .nilfunc:=fun g g' u hF h => by cases h; exact .nilfunc
theorem NoId.niliface:NoId .niliface:=fun g g' u hF h => by cases h; exact .niliface
theorem NoId.agg {cs:List AV} (hc:∀ x ∈ cs,NoId x):NoId (.agg cs):=fun g g' u hF h => by
 cases h with
 | agg _ vs hl hr => exact .agg cs vs hl fun i h1 h2 => hc _ (List.getElem_mem h1) g g' _ hF (hr i h1 h2)
theorem NoId.tuple {cs:List AV} (hc:∀ x ∈ cs,NoId x):NoId (.tuple cs):=fun g g' u hF h => by
 cases h with
 | tuple _ vs hl hr => exact .tuple cs vs hl fun i h1 h2 => hc _ (List.getElem_mem h1) g g' _ hF (hr i h1 h2)
theorem NoId.vptr {cs:List AV} (hc:∀ x ∈ cs,NoId x):NoId (.vptr cs):=fun g g' u hF h => by
 cases h with
 | vptr _ b o vs hl hf hr => exact .vptr cs b o vs hl (fun i hi => hF _ _ _ (hf i hi)) fun i h1 h2 => hc _ (List.getElem_mem h1) g g' _ hF (hr i h1 h2)
theorem NoId.iface {t:Nat} {v:AV} (hv:NoId v):NoId (.iface t v):=fun g g' u hF h => by
 cases h with
 | iface _ _ u hr => exact .iface t v u (hv g g' u hF hr)
theorem NoId.func {fn:Fn} {fs cs:List AV} (hf:∀ x ∈ fs,NoId x) (hc:∀ x ∈ cs,NoId x):NoId (.func fn fs cs):=fun g g' u hF h => by
 cases h with
 | func _ _ _ us vs hfl hcl h1 h2 => exact .func fn fs cs us vs hfl hcl (fun i a b => hf _ (List.getElem_mem a) g g' _ hF (h1 i a b)) (fun i a b => hc _ (List.getElem_mem a) g g' _ hF (h2 i a b))
theorem NoId.slice {sz:Nat} {xs:List AV} {m:Cap} (hm:∀ id,m ≠ .tok id) (hx:∀ x ∈ flat xs,NoId x):NoId (.slice sz xs m):=fun g g' u hF h => by
 cases h with
 | slice _ _ _ a cap vs hsz hl hsp hf h1 hr hcap hc =>
  refine .slice sz xs m a cap vs hsz hl hsp (fun i hi => hF _ _ _ (hf i hi)) h1 (fun i a b => hx _ (List.getElem_mem a) g g' _ hF (hr i a b)) hcap ?_
  cases m with
  | any => trivial
  | nn => trivial
  | full => exact hc
  | tok id => exact absurd rfl (hm id)
 | nilany => exact .nilany sz

mutual
def noIdB:AV -> Bool
 | .undef | .bool _ | .int _ _ | .str _ | .nilptr | .nilslice | .nilmap | .nilfunc | .niliface => true
 | .vptr cs => noIdL cs
 | .slice _ xs m => (match m with | .tok _ => false | _ => true) && noIdL xs
 | .func _ fs cs => noIdL fs && noIdL cs
 | .iface _ v => noIdB v
 | .agg cs => noIdL cs
 | .tuple cs => noIdL cs
 | _ => false
def noIdL:List AV -> Bool
 | [] => true
 | x :: xs => noIdB x && noIdL xs
end

theorem NoId.cells {v:AV} (h:NoId v) (hc:∀ cs,v = .agg cs -> ∀ x ∈ cs,NoId x):∀ x ∈ v.cells,NoId x:=by
 intro x hx
 cases v <;> first | (simp [AV.cells] at hx; subst hx; exact h) | exact hc _ rfl x hx

mutual
theorem noIdB_ok:∀ v,noIdB v = true -> NoId v /\ ∀ x ∈ v.cells,NoId x
 | .undef,_ => ⟨.undef,fun x hx => by simp [AV.cells] at hx; subst hx; exact .undef⟩
 | .bool b,_ => ⟨.bool b,fun x hx => by simp [AV.cells] at hx; subst hx; exact .bool b⟩
 | .int k n,_ => ⟨.int k n,fun x hx => by simp [AV.cells] at hx; subst hx; exact .int k n⟩
 | .str s,_ => ⟨.str s,fun x hx => by simp [AV.cells] at hx; subst hx; exact .str s⟩
 | .nilptr,_ => ⟨.nilptr,fun x hx => by simp [AV.cells] at hx; subst hx; exact .nilptr⟩
 | .nilslice,_ => ⟨.nilslice,fun x hx => by simp [AV.cells] at hx; subst hx; exact .nilslice⟩
 | .nilmap,_ => ⟨.nilmap,fun x hx => by simp [AV.cells] at hx; subst hx; exact .nilmap⟩
 | .nilfunc,_ => ⟨.nilfunc,fun x hx => by simp [AV.cells] at hx; subst hx; exact .nilfunc⟩
 | .niliface,_ => ⟨.niliface,fun x hx => by simp [AV.cells] at hx; subst hx; exact .niliface⟩
 | .vptr cs,h => have k:=NoId.vptr (noIdL_ok cs (by simpa [noIdB] using h)).1; ⟨k,fun x hx => by simp [AV.cells] at hx; subst hx; exact k⟩
 | .slice sz xs m,h => by
  simp only [noIdB,Bool.and_eq_true] at h
  have k:NoId (.slice sz xs m):=.slice (fun id e => by subst e; simp at h) (noIdL_ok xs h.2).2
  exact ⟨k,fun x hx => by simp [AV.cells] at hx; subst hx; exact k⟩
 | .func fn fs cs,h => by
  simp only [noIdB,Bool.and_eq_true] at h
  have k:NoId (.func fn fs cs):=.func (noIdL_ok fs h.1).1 (noIdL_ok cs h.2).1
  exact ⟨k,fun x hx => by simp [AV.cells] at hx; subst hx; exact k⟩
 | .iface t v,h => have k:=NoId.iface (t:=t) (noIdB_ok v (by simpa [noIdB] using h)).1; ⟨k,fun x hx => by simp [AV.cells] at hx; subst hx; exact k⟩
 | .agg cs,h => have k:=(noIdL_ok cs (by simpa [noIdB] using h)).1; ⟨.agg k,k⟩
 | .tuple cs,h => have k:=NoId.tuple (noIdL_ok cs (by simpa [noIdB] using h)).1; ⟨k,fun x hx => by simp [AV.cells] at hx; subst hx; exact k⟩
 | .ptr _ _,h => by simp [noIdB] at h
 | .rslice _ _ _,h => by simp [noIdB] at h
 | .view _ _ _,h => by simp [noIdB] at h
 | .map _,h => by simp [noIdB] at h
 | .yield _,h => by simp [noIdB] at h
theorem noIdL_ok:∀ xs,noIdL xs = true -> (∀ x ∈ xs,NoId x) /\ ∀ x ∈ flat xs,NoId x
 | [],_ => ⟨by simp,by simp [flat]⟩
 | x :: xs,h => by
  simp only [noIdL,Bool.and_eq_true] at h
  have h1:=noIdB_ok x h.1
  have h2:=noIdL_ok xs h.2
  refine ⟨fun y hy => ?_,fun y hy => ?_⟩
  ·rcases List.mem_cons.1 hy with rfl | hy
   ·exact h1.1
   ·exact h2.1 y hy
  ·rw [flat_cons] at hy
   rcases List.mem_append.1 hy with hy | hy
   ·exact h1.2 y hy
   ·exact h2.2 y hy
end

def State.untok (σ:State):State:={ σ with objs:=fun id => match σ.objs id with | .tok _ _ _ => .dead | o => o }
theorem State.untok_le (σ:State):σ.untok.Le σ:=⟨rfl,fun id => by
 unfold State.untok
 dsimp only
 split
 ·exact .inr rfl
 ·exact .inl rfl⟩

def isTok:AObj -> Bool
 | .tok _ _ _ => true
 | _ => false

def noObj:State:=⟨fun _ => .dead,0⟩

section
variable {B:Nat} {w0:World} {g:Ghost} {σ:State} {w:World}

theorem ObjOk.noF {id:Nat} {o:AObj} (hS:Sim B w0 g σ w) (h:ObjOk B g w id o) (hd:o ≠ .dead) (ht:isTok o = false):∃ i x,g.info id = some i /\ B <= i.blk /\ w.heap[i.blk]? = some x /\ ∀ p,g.F i.blk p = none:=by
 have key:∀ {b:Nat} {x:Obj},w.heap[b]? = some x -> (∀ c e s,x ≠ .cells c e s) -> ∀ p,g.F b p = none:=by
  intro b x hx hne p
  cases hv:g.F b p with
  | none => rfl
  | some v =>
   have:=hS.froz b p v hv
   simp only [World.cell?,hx] at this
   cases x <;> first | (exact absurd rfl (hne _ _ _)) | (simp at this)
 cases o with
 | dead => exact absurd rfl hd
 | cells cs e sz grow => obtain ⟨i,c,h1,_,h2,h3,_,_,_,_,_,_,h10⟩:=h; exact ⟨i,_,h1,h2,h3,h10⟩
 | tok n e sz => simp [isTok] at ht
 | map es => obtain ⟨i,ms,cl,h1,h2,h3,_⟩:=h; exact ⟨i,_,h1,h2,h3,key h3 (by simp)⟩
 | siter s pos => obtain ⟨i,h1,h2,h3⟩:=h; exact ⟨i,_,h1,h2,h3,key h3 (by simp)⟩
 | loop l => obtain ⟨i,r,h1,h2,h3,_⟩:=h; exact ⟨i,_,h1,h2,h3,key h3 (by simp)⟩
 | cmap es => obtain ⟨i,ms,cl,es',h1,h2,h3,_⟩:=h; exact ⟨i,_,h1,h2,h3,key h3 (by simp)⟩

def heldBlk (g:Ghost) (σ:State) (b:Nat):Prop:=∃ id i,σ.objs id ≠ .dead /\ isTok (σ.objs id) = false /\ g.info id = some i /\ i.blk = b

open Classical in
noncomputable def bareG (g:Ghost) (σ:State) (w:World):Ghost:=⟨g.F,fun _ => none,fun b => if heldBlk g σ b then w.heap[b]? else g.R b⟩

open Classical in
theorem Sim.bare (hS:Sim B w0 g σ w):Sim B w0 (bareG g σ w) noObj w where
 below:=hS.below
 size:=hS.size
 froz:=hS.froz
 objs id:=trivial
 inj i j pi pj h1:=by cases h1
 next id _:=⟨rfl,rfl⟩
 res b x hb:=by
  change (if heldBlk g σ b then w.heap[b]? else g.R b) = some x at hb
  split at hb
  ·exact hb
  ·exact hS.res b x hb
 resF b o x hb:=by
  change (if heldBlk g σ b then w.heap[b]? else g.R b) = some x at hb
  split at hb
  ·rename_i hh
   obtain ⟨id,i,h1,h2,h3,rfl⟩:=hh
   obtain ⟨i',_,h4,_,_,h5⟩:=(hS.objs id).noF hS h1 h2
   rw [h3] at h4; cases h4
   exact h5 o
  ·exact hS.resF b o x hb
 resO id i h1:=absurd rfl h1

open Classical in
theorem Sim.unbare {g':Ghost} {σ':State} {w':World} (hS:Sim B w0 g σ w) (hS':Sim B w0 g' σ' w') (hle:(bareG g σ w).Le g') :
  Sim B w0 ⟨g'.F,g.info,g.R⟩ σ.untok w' /\ g.Le ⟨g'.F,g.info,g.R⟩:=by
 have hle2:g.Le ⟨g'.F,g.info,g.R⟩:=⟨fun b o v h => hle.F b o v h,fun _ _ h => h,rfl⟩
 have hR:∀ b,g'.R b = if heldBlk g σ b then w.heap[b]? else g.R b:=fun b => by rw [hle.R]; rfl
 have held:∀ id i,σ.objs id ≠ .dead -> isTok (σ.objs id) = false -> g.info id = some i -> w'.heap[i.blk]? = w.heap[i.blk]? /\ ∀ p,g'.F i.blk p = none:=by
  intro id i h1 h2 h3
  obtain ⟨i',x,h4,_,h5,h6⟩:=(hS.objs id).noF hS h1 h2
  rw [h3] at h4; cases h4
  have hh:heldBlk g σ i.blk:=⟨id,i,h1,h2,h3,rfl⟩
  have hx:g'.R i.blk = some x:=by rw [hR,if_pos hh,h5]
  exact ⟨by rw [hS'.res _ _ hx,h5],fun p => hS'.resF _ p _ hx⟩
 have hun:∀ id,σ.untok.objs id ≠ .dead -> σ.objs id ≠ .dead /\ isTok (σ.objs id) = false /\ σ.untok.objs id = σ.objs id:=by
  intro id hid
  unfold State.untok at hid ⊢
  dsimp only at hid ⊢
  cases ho:σ.objs id <;> rw [ho] at hid <;> simp_all [isTok]
 refine ⟨⟨hS'.below,hS'.size,hS'.froz,fun id => ?_,fun i j pi pj h1 h2 h3 h4 h5 => hS.inj i j pi pj h1 h2 (hun i h3).1 (hun j h4).1 h5,fun id hid => ?_,fun b x hb => ?_,fun b o x hb => ?_,fun id i h1 h2 => hS.resO id i (hun id h1).1 h2⟩,hle2⟩
 ·by_cases hd:σ.untok.objs id = .dead
  ·rw [hd]; trivial
  ·obtain ⟨h1,h2,h3⟩:=hun id hd
   rw [h3]
   refine (hS.objs id).keep hle2 (fun i hi => (held id i h1 h2 hi).1) (fun i b hi _ => ?_)
   have hk:=(held id i h1 h2 hi).2 b
   show g'.F i.blk b = g.F i.blk b
   rw [hk]
   cases hv:g.F i.blk b with
   | none => rfl
   | some v => have:=hle.F _ _ v hv; rw [hk] at this; cases this
 ·refine ⟨(hS.next id hid).1,?_⟩
  rcases σ.untok_le.objs id with e | e
  ·rw [e]; exact (hS.next id hid).2
  ·exact e
 ·have hb':g.R b = some x:=hb
  have:¬ heldBlk g σ b:=by
   rintro ⟨id,i,h1,h2,h3,rfl⟩
   rw [hS.resO id i h1 h3] at hb'; cases hb'
  exact hS'.res b x (by rw [hR,if_neg this]; exact hb')
 ·have hb':g.R b = some x:=hb
  have:¬ heldBlk g σ b:=by
   rintro ⟨id,i,h1,h2,h3,rfl⟩
   rw [hS.resO id i h1 h3] at hb'; cases hb'
  exact hS'.resF b o x (by rw [hR,if_neg this]; exact hb')
end

theorem ACalls.pure {E:Env} {f:Nat} {args:List AV} {Q0 Q:AV -> State -> Prop} {σ:State} (hG:∀ i,NoId (E.G i)) (ha:∀ x ∈ args,NoId x) (h:ACalls E f args noObj Q0)
  (hQ:∀ v σ',Q0 v σ' -> ∃ v',Wk v v' /\ NoId v' /\ Q v' σ.untok):ACalls E f args σ Q:=by
 refine ⟨fun g w vs hRG hS hv => ?_⟩
 refine (h.run (bareG g σ w) w vs (fun i => hG i g _ _ (fun _ _ _ h => h) (hRG i)) hS.bare ⟨hv.1,fun i h1 h2 => ha _ (List.getElem_mem h1) g _ _ (fun _ _ _ h => h) (hv.2 i h1 h2)⟩).mono fun e w' k => ?_
 cases e with
 | returned u =>
  obtain ⟨g',σ',a,h1,h2,h3,h4⟩:=k
  obtain ⟨v',h5,h6,h7⟩:=hQ _ _ h4
  obtain ⟨h8,h9⟩:=hS.unbare h2 h1
  exact ⟨_,_,v',h9,h8,h6 g' _ u (fun _ _ _ h => h) (h5 _ _ h3),h7⟩
 | outgrown => exact k
 | panicked c => exact k
end Go.V
/- The W-layer, part 5: what a call returns becomes a value, whole. -/
namespace Go.V
open Go.RowKit

def nnCap:Cap -> Cap
 | .tok _ => .nn
 | m => m

def deep (P:Program) (σ:State):Nat -> AV -> Option AV
 | 0,_ => none
 | n + 1,v => match v with
  | .undef | .bool _ | .int _ _ | .str _ | .nilptr | .nilslice | .nilmap | .nilfunc | .niliface => some v
  | .slice sz xs m => (xs.mapM (deep P σ n)).map fun ys => .slice sz ys (nnCap m)
  | .rslice id off len => match σ.objs id with
   | .cells cs e sz _ => match kindT P e with
    | some k => match Nat.beq (k.getD 1) sz && (Nat.blt 0 sz && Nat.ble ((off + len) * sz) cs.length) with
     | true => ((chunk k ((cs.drop (off * sz)).take (len * sz)) len).mapM (deep P σ n)).map fun ys => .slice sz ys .nn
     | false => none
    | none => none
   | _ => none
  | .ptr id off => match σ.objs id with
   | .cells cs _ _ _ => match Nat.ble off cs.length with
    | true => ((cs.drop off).mapM (deep P σ n)).map .vptr
    | false => none
   | _ => none
  | .vptr cs => (cs.mapM (deep P σ n)).map .vptr
  | .agg cs => (cs.mapM (deep P σ n)).map .agg
  | .tuple cs => (cs.mapM (deep P σ n)).map .tuple
  | .iface t v => (deep P σ n v).map (.iface t)
  | .func fn fs cs => (fs.mapM (deep P σ n)).bind fun fs' => (cs.mapM (deep P σ n)).map fun cs' => .func fn fs' cs'
  | _ => none

theorem mapM_get {f:AV -> Option AV}:∀ {xs ys:List AV},xs.mapM f = some ys -> ys.length = xs.length /\ ∀ i (h:i < xs.length) (h':i < ys.length),f xs[i] = some ys[i]
 | [],ys,h => by simp at h; subst h; exact ⟨rfl,fun i h => by simp at h⟩
 | x :: xs,ys,h => by
  simp only [List.mapM_cons] at h
  cases hx:f x with
  | none => simp [hx] at h
  | some y =>
   cases hxs:xs.mapM f with
   | none => simp [hx,hxs] at h
   | some ys' =>
    simp [hx,hxs] at h
    subst h
    obtain ⟨h1,h2⟩:=mapM_get hxs
    refine ⟨by simp [h1],fun i a b => ?_⟩
    cases i with
    | zero => exact hx
    | succ i => exact h2 i (by simpa using a) (by simpa using b)

theorem deep_agg {P:Program} {σ:State} {n:Nat} {x y:AV} (h:deep P σ n x = some y):(∃ cs ds m,n = m + 1 /\ x = .agg cs /\ y = .agg ds /\ cs.mapM (deep P σ m) = some ds) \/ ((∀ cs,x ≠ .agg cs) /\ (∀ cs,y ≠ .agg cs) /\ (x.one = true -> y.one = true)):=by
 cases n with
 | zero => simp [deep] at h
 | succ n =>
  cases x with
  | agg cs =>
   simp only [deep,Option.map_eq_some_iff] at h
   obtain ⟨ds,h1,rfl⟩:=h
   exact .inl ⟨cs,ds,n,rfl,rfl,rfl,h1⟩
  | _ =>
   right
   refine ⟨by simp,?_,?_⟩ <;> (simp only [deep] at h; repeat' (first | (split at h) | (simp only [Option.bind_eq_some_iff,Option.map_eq_some_iff] at h; obtain ⟨_,_,_,_,rfl⟩:=h) | (simp only [Option.map_eq_some_iff] at h; obtain ⟨_,_,rfl⟩:=h) | (cases h)) ) <;> simp [AV.one]

def heldC (g:Ghost) (σ:State) (b:Nat):Prop:=∃ id i cs e sz gr,σ.objs id = .cells cs e sz gr /\ g.info id = some i /\ i.blk = b
open Classical in
noncomputable def frzAll (g:Ghost) (σ:State) (w:World):Ghost:=⟨fun b o => if heldC g σ b then w.cell? ⟨b,o,none⟩ else g.F b o,g.info,g.R⟩

def State.none (σ:State):State:=⟨fun _ => .dead,σ.next⟩

section
variable {P:Program} {B:Nat} {w0:World} {g:Ghost} {σ:State} {w:World}

open Classical in
theorem Sim.frzAll (hS:Sim B w0 g σ w):g.Le (frzAll g σ w) /\ Sim B w0 (frzAll g σ w) σ.none w:=by
 have hF:∀ b o,(Go.V.frzAll g σ w).F b o = if heldC g σ b then w.cell? ⟨b,o,Option.none⟩ else g.F b o:=fun _ _ => rfl
 have hno:∀ b,heldC g σ b -> g.R b = Option.none:=by
  rintro b ⟨id,i,cs,e,sz,gr,h1,h2,rfl⟩
  exact hS.resO id i (by rw [h1]; simp) h2
 refine ⟨⟨fun b o v h => ?_,fun _ _ h => h,rfl⟩,hS.below,hS.size,fun b o v h => ?_,fun id => trivial,fun i j pi pj _ _ h => absurd rfl h,fun id hid => ⟨(hS.next id hid).1,rfl⟩,hS.res,fun b o x h => ?_,fun id i h => absurd rfl h⟩
 ·rw [hF]
  split
  ·exact hS.froz b o v h
  ·exact h
 ·rw [hF] at h
  split at h
  ·exact h
  ·exact hS.froz b o v h
 ·rw [hF]
  split
  ·rename_i hh
   have:=hno b hh
   have h':g.R b = some x:=h
   rw [this] at h'; cases h'
  ·exact hS.resF b o x h

open Classical in
theorem deep_ok (hS:Sim B w0 g σ w):∀ (n:Nat) (v v':AV) (u:Value),RV g v u -> deep P σ n v = some v' -> RV (Go.V.frzAll g σ w) v' u:=by
 have hle:=hS.frzAll.1
 intro n
 induction n with
 | zero => intro v v' u _ h; simp [deep] at h
 | succ n ih =>
  -- element by element
  have ihL:∀ {xs ys:List AV} {us:List Value},RVL g xs us -> xs.mapM (deep P σ n) = some ys -> RVL (Go.V.frzAll g σ w) ys us:=by
   intro xs ys us hr hm
   obtain ⟨h1,h2⟩:=mapM_get hm
   exact ⟨by rw [h1]; exact hr.1,fun i a b => ih _ _ _ (hr.2 i (by omega) b) (h2 i (by omega) a)⟩
  -- the cells of elements
  have ihF:∀ {xs ys:List AV} {us:List Value} {sz:Nat},(∀ x ∈ xs,x.cells.length = sz) -> (flat xs).all AV.one = true -> RVL g (flat xs) us -> xs.mapM (deep P σ n) = some ys ->
    RVL (Go.V.frzAll g σ w) (flat ys) us /\ (∀ y ∈ ys,y.cells.length = sz) /\ (flat ys).all AV.one = true:=by
   intro xs
   induction xs with
   | nil =>
    intro ys us sz hsz h1 hr hm
    simp at hm; subst hm
    have:us = []:=by simpa [flat] using hr.nil_inv
    subst this
    exact ⟨RVL.nil _,by simp,by simp [flat]⟩
   | cons x xs ihx =>
    intro ys us sz hsz h1 hr hm
    simp only [List.mapM_cons] at hm
    cases hx:deep P σ n x with
    | none => simp [hx] at hm
    | some y =>
     cases hxs:xs.mapM (deep P σ n) with
     | none => simp [hx,hxs] at hm
     | some ys' =>
      simp [hx,hxs] at hm
      subst hm
      rw [flat_cons] at h1 hr
      rw [List.all_append,Bool.and_eq_true] at h1
      have hus:us = us.take x.cells.length ++ us.drop x.cells.length:=(List.take_append_drop _ _).symm
      have hr1:RVL g x.cells (us.take x.cells.length):=by
       have:=hr.take x.cells.length
       simpa using this
      have hr2:RVL g (flat xs) (us.drop x.cells.length):=by
       have:=hr.drop x.cells.length
       simpa using this
      obtain ⟨k1,k2,k3⟩:=ihx (fun z hz => hsz z (by simp [hz])) h1.2 hr2 hxs
      have key:RVL (Go.V.frzAll g σ w) y.cells (us.take x.cells.length) /\ y.cells.length = x.cells.length /\ y.cells.all AV.one = true:=by
       rcases deep_agg hx with ⟨cs,ds,m,rfl,rfl,rfl,hm⟩ | ⟨h3,h4,h5⟩
       ·-- an aggregate: its cells come by the same steps
        obtain ⟨l1,l2⟩:=mapM_get hm
        have hagg:RVL (Go.V.frzAll g σ w) ds (us.take cs.length):=by
         have hra:RV g (.agg cs) (.agg (us.take cs.length).toArray):=RV.agg' (by simpa [AV.cells] using hr1)
         have:=ih (.agg cs) (.agg ds) _ hra hx
         obtain ⟨vs,e,k⟩:=this.agg_inv
         cases e
         simpa using k
        refine ⟨by simpa [AV.cells] using hagg,by simpa [AV.cells] using l1,?_⟩
        have h1':cs.all AV.one = true:=h1.1
        rw [List.all_eq_true] at h1' ⊢
        intro z hz
        obtain ⟨i,hi,rfl⟩:=List.getElem_of_mem hz
        have hi':i < ds.length:=hi
        have hd:=l2 i (by omega) hi'
        have ho:=h1' cs[i] (List.getElem_mem _)
        rcases deep_agg hd with ⟨cs',_,_,_,e,_⟩ | ⟨_,_,h7⟩
        ·rw [e] at ho; simp [AV.one] at ho
        ·exact h7 ho
       ·have hc:x.cells = [x]:=by cases x <;> first | rfl | exact absurd rfl (h3 _)
        have hcy:y.cells = [y]:=by cases y <;> first | rfl | exact absurd rfl (h4 _)
        rw [hc] at hr1 h1
        obtain ⟨u1,us1,e1,h6,h7⟩:=hr1.cons_inv
        have:=h7.nil_inv
        subst this
        rw [hc,hcy,e1]
        refine ⟨.cons (ih _ _ _ h6 hx) (.nil _),rfl,?_⟩
        have:=h1.1
        simp only [List.all_cons,List.all_nil,Bool.and_true] at this ⊢
        exact h5 this
      refine ⟨?_,fun z hz => ?_,?_⟩
      ·rw [flat_cons,hus]; exact key.1.append k1
      ·rcases List.mem_cons.1 hz with rfl | hz
       ·rw [key.2.1]; exact hsz x (by simp)
       ·exact k2 z hz
      ·rw [flat_cons,List.all_append,key.2.2,k3]; rfl
  intro v v' u hr h
  cases v with
  | undef => simp [deep] at h; subst h; exact hr.mono hle
  | bool b => simp [deep] at h; subst h; exact hr.mono hle
  | int k m => simp [deep] at h; subst h; exact hr.mono hle
  | str s => simp [deep] at h; subst h; exact hr.mono hle
  | nilptr => simp [deep] at h; subst h; exact hr.mono hle
  | nilslice => simp [deep] at h; subst h; exact hr.mono hle
  | nilmap => simp [deep] at h; subst h; exact hr.mono hle
  | nilfunc => simp [deep] at h; subst h; exact hr.mono hle
  | niliface => simp [deep] at h; subst h; exact hr.mono hle
  | map id => simp [deep] at h
  | view id off len => simp [deep] at h
  | yield id => simp [deep] at h
  | func fn fs cs =>
   simp only [deep,Option.bind_eq_some_iff,Option.map_eq_some_iff] at h
   obtain ⟨fs',h1,cs',h2,rfl⟩:=h
   obtain ⟨us,vs,rfl,k1,k2⟩:=hr.func_inv
   exact RV.func' (ihL k1 h1) (ihL k2 h2)
  | agg cs =>
   simp only [deep,Option.map_eq_some_iff] at h
   obtain ⟨ds,h1,rfl⟩:=h
   obtain ⟨vs,rfl,k⟩:=hr.agg_inv
   exact .agg' (ihL k h1)
  | tuple cs =>
   simp only [deep,Option.map_eq_some_iff] at h
   obtain ⟨ds,h1,rfl⟩:=h
   obtain ⟨vs,rfl,k⟩:=hr.tuple_inv
   exact .tuple' (ihL k h1)
  | iface t x =>
   simp only [deep,Option.map_eq_some_iff] at h
   obtain ⟨y,h1,rfl⟩:=h
   cases hr with
   | iface _ _ u hr => exact .iface t y u (ih _ _ _ hr h1)
  | vptr cs =>
   simp only [deep,Option.map_eq_some_iff] at h
   obtain ⟨ds,h1,rfl⟩:=h
   cases hr with
   | vptr _ b o vs hl hF hrr =>
    have k:=ihL ⟨hl,hrr⟩ h1
    exact .vptr ds b o vs k.1 (fun i hi => hle.F _ _ _ (hF i hi)) k.2
  | ptr id off =>
   simp only [deep] at h
   split at h
   case h_2 => cases h
   rename_i cs e sz gr ho
   split at h
   case h_2 => cases h
   rename_i hle2
   simp only [Option.map_eq_some_iff] at h
   obtain ⟨ds,h1,rfl⟩:=h
   obtain ⟨i,c,hi,hs,hB,hh,hlc,hg,hct,hmx,hrc,h1c,hFn⟩:=hS.cells ho
   cases hr with
   | ptr _ _ i' hi' =>
    rw [hi] at hi'; cases hi'
    have k:=ihL (hrc.drop off) h1
    refine .vptr ds i.blk off ((c.toList.take cs.length).drop off) k.1 (fun j hj => ?_) k.2
    show (if heldC g σ i.blk then w.cell? ⟨i.blk,off + j,Option.none⟩ else g.F i.blk (off + j)) = _
    rw [if_pos ⟨id,i,cs,e,sz,gr,ho,hi,rfl⟩]
    have hj2:off + j < c.size:=by simp at hj; omega
    simp only [World.cell?,hh,Option.isSome_none,Bool.false_eq_true,if_false]
    simp [hj2]
  | slice sz xs m =>
   simp only [deep,Option.map_eq_some_iff] at h
   obtain ⟨ys,h1,rfl⟩:=h
   cases hr with
   | slice _ _ _ a cap vs hsz hl hsp hF h1c hrr hcap hm =>
    obtain ⟨k1,k2,k3⟩:=ihF hsz h1c ⟨hl,hrr⟩ h1
    have hyl:=(mapM_get h1).1
    rw [<-hyl]
    refine .slice sz ys (nnCap m) a cap vs k2 k1.1 hsp (fun i hi => hle.F _ _ _ (hF i hi)) k3 k1.2 (by omega) ?_
    cases m with
    | any => trivial
    | nn => trivial
    | full => simp only [capOk] at hm; simp only [nnCap,capOk]; omega
    | tok id => trivial
   | nilany =>
    simp at h1; subst h1
    exact .nilany sz
  | rslice id off len =>
   simp only [deep] at h
   split at h
   case h_2 => cases h
   rename_i cs e sz gr ho
   split at h
   case h_2 => cases h
   rename_i k hk
   split at h
   case h_2 => cases h
   rename_i hc
   simp only [Bool.and_eq_true] at hc
   have hc1:k.getD 1 = sz:=Nat.eq_of_beq_eq_true hc.1
   have hc2:0 < sz:=by have:=hc.2.1; simp [Nat.blt] at this; omega
   have hc3:(off + len) * sz <= cs.length:=Nat.le_of_ble_eq_true hc.2.2
   simp only [Option.map_eq_some_iff] at h
   obtain ⟨ys,h1,rfl⟩:=h
   obtain ⟨i,c,hi,hs,hB,hh,hlc,hg,hct,hmx,hrc,h1c,hFn⟩:=hS.cells ho
   cases hr with
   | rslice _ _ _ i' a cap hi' hadr hcap hlen =>
    rw [hi] at hi'; cases hi'
    have hone:cs.all AV.one = true:=h1c
    have hmul:(off + len) * sz = off * sz + len * sz:=Nat.add_mul ..
    have hone':((cs.drop (off * sz)).take (len * sz)).all AV.one = true:=by
     rw [List.all_eq_true] at hone ⊢
     exact fun x hx => hone x (List.mem_of_mem_drop (List.mem_of_mem_take hx))
    have hl':len * sz <= ((cs.drop (off * sz)).take (len * sz)).length:=by simp; omega
    have hln:=chunk_length k ((cs.drop (off * sz)).take (len * sz)) len sz hc1 hl'
    have hfl:=flat_chunk k ((cs.drop (off * sz)).take (len * sz)) len sz hc1 hl' hone'
    have hrf:RVL g (flat (chunk k ((cs.drop (off * sz)).take (len * sz)) len)) (((c.toList.take cs.length).drop (off * sz)).take (len * sz)):=by
     rw [hfl,List.take_take,Nat.min_self]
     exact (hrc.drop _).take _
    obtain ⟨k1,k2,k3⟩:=ihF (chunk_sz k _ len sz hc1 hl' hone') (by rw [hfl,List.take_take,Nat.min_self]; exact hone') hrf h1
    have hyl:ys.length = len:=by rw [(mapM_get h1).1,hln]
    have key:∀ (hp:0 < len),a = ⟨i.blk,off * i.sz,Option.none⟩:=fun hp => hadr.resolve_right (by omega)
    have hvl:(((c.toList.take cs.length).drop (off * sz)).take (len * sz)).length = len * sz:=by simp; omega
    have:=RV.slice (g:=Go.V.frzAll g σ w) sz ys .nn a cap _ k2 k1.1 (fun hp => by
      have:0 < len:=by
       rcases Nat.eq_zero_or_pos len with e | e
       ·subst e; simp at hp
       ·exact e
      rw [key this]) (fun j hj => by
      have hj':j < len * sz:=by rw [hvl] at hj; exact hj
      have hp:0 < len:=by
       rcases Nat.eq_zero_or_pos len with e | e
       ·subst e; simp at hj'
       ·exact e
      rw [key hp,hs]
      show (if heldC g σ i.blk then w.cell? ⟨i.blk,off * sz + j,Option.none⟩ else g.F i.blk (off * sz + j)) = _
      rw [if_pos ⟨id,i,cs,e,sz,gr,ho,hi,rfl⟩]
      have hj2:off * sz + j < c.size:=by omega
      simp only [World.cell?,hh,Option.isSome_none,Bool.false_eq_true,if_false]
      simp [hj2]) k3 k1.2 (by omega) trivial
    rw [hyl] at this
    exact this
end

theorem ACalls.pureD {E:Env} {f:Nat} {args:List AV} {Q0 Q:AV -> State -> Prop} {σ:State} (n:Nat) (hG:∀ i,NoId (E.G i)) (ha:∀ x ∈ args,NoId x) (h:ACalls E f args noObj Q0)
  (hQ:∀ v σ',Q0 v σ' -> ∃ v' v'',deep E.P σ' n v = some v' /\ Wk v' v'' /\ NoId v'' /\ Q v'' σ.untok):ACalls E f args σ Q:=by
 have h':ACalls E f args noObj (fun v σ' => ∃ v',Wk v v' /\ NoId v' /\ Q v' σ.untok):=by
  refine ⟨fun g w vs hRG hS hv => (h.run g w vs hRG hS hv).mono fun e w' k => ?_⟩
  cases e with
  | returned u =>
   obtain ⟨g',σ',a,h1,h2,h3,h4⟩:=k
   obtain ⟨v',v'',h5,h6,h7,h8⟩:=hQ _ _ h4
   obtain ⟨h9,h10⟩:=h2.frzAll
   exact ⟨_,_,v',h1.trans h9,h10,deep_ok h2 n a v' u h3 h5,v'',h6,h7,h8⟩
  | outgrown => exact k
  | panicked c => exact k
 exact .pure hG ha h' fun v σ' k => k
end Go.V
/- The W-layer, part 6: a call may be shown on the few objects that it reaches, under numbers of their own, and holds beside all others. -/
namespace Go.V
open Go.RowKit

def RenP (R:Nat -> Nat -> Prop) (v v':AV):Prop:=∀ (g g':Ghost) u,(∀ b o x,g.F b o = some x -> g'.F b o = some x) -> (∀ i j x,R i j -> g.info i = some x -> g'.info j = some x) -> RV g v u -> RV g' v' u
inductive RenL (R:Nat -> Nat -> Prop):List AV -> List AV -> Prop where
 | nil:RenL R [] []
 | cons {v v':AV} {vs vs':List AV} (h:RenP R v v') (hs:RenL R vs vs'):RenL R (v :: vs) (v' :: vs')

variable {R:Nat -> Nat -> Prop}
theorem RenP.undef (v:AV):RenP R v .undef:=fun g g' u _ _ k => .undef u
theorem RenL.append {as as' bs bs':List AV} (h:RenL R as as') (k:RenL R bs bs'):RenL R (as ++ bs) (as' ++ bs'):=by
 induction h with
 | nil => exact k
 | cons h hs ih => exact .cons h ih
theorem RenL.rv {vs vs':List AV} (h:RenL R vs vs') {g g':Ghost} {us:List Value} (hF:∀ b o x,g.F b o = some x -> g'.F b o = some x) (hi:∀ i j x,R i j -> g.info i = some x -> g'.info j = some x) (k:RVL g vs us):RVL g' vs' us:=by
 induction h generalizing us with
 | nil => have:=k.nil_inv; subst this; exact .nil g'
 | cons h hs ih => obtain ⟨u,us',rfl,h1,h2⟩:=k.cons_inv; exact .cons (h g g' u hF hi h1) (ih h2)
theorem RenL.length {vs vs':List AV} (h:RenL R vs vs'):vs'.length = vs.length:=by
 induction h with
 | nil => rfl
 | cons h hs ih => simp [ih]
theorem RenP.ptr {i j:Nat} (h:R i j) (off:Nat):RenP R (.ptr i off) (.ptr j off):=fun g g' u hF hi k => by
 cases k with
 | ptr _ _ x hx => exact .ptr j off x (hi i j x h hx)
theorem RenP.rslice {i j:Nat} (h:R i j) (off len:Nat):RenP R (.rslice i off len) (.rslice j off len):=fun g g' u hF hi k => by
 cases k with
 | rslice _ _ _ x a cap hx ha hc hl => exact .rslice j off len x a cap (hi i j x h hx) ha hc hl
theorem RenP.map {i j:Nat} (h:R i j):RenP R (.map i) (.map j):=fun g g' u hF hi k => by
 cases k with
 | map _ x hx => exact .map j x (hi i j x h hx)
theorem RenP.agg {cs cs':List AV} (h:RenL R cs cs'):RenP R (.agg cs) (.agg cs'):=fun g g' u hF hi k => by
 obtain ⟨vs,rfl,k1⟩:=k.agg_inv; exact .agg' (h.rv hF hi k1)
theorem RenP.tuple {cs cs':List AV} (h:RenL R cs cs'):RenP R (.tuple cs) (.tuple cs'):=fun g g' u hF hi k => by
 obtain ⟨vs,rfl,k1⟩:=k.tuple_inv; exact .tuple' (h.rv hF hi k1)

def RenO (R:Nat -> Nat -> Prop) (o o':AObj):Prop:=∀ B (g g':Ghost) w i j,g'.F = g.F -> (∀ i j x,R i j -> g.info i = some x -> g'.info j = some x) -> R i j -> ObjOk B g w i o -> ObjOk B g' w j o'

theorem RenO.dead (o:AObj):RenO R o .dead:=fun _ _ _ _ _ _ _ _ _ _ => trivial
theorem RenO.cells {cs cs':List AV} {e sz:Nat} {gr:Bool} (h:RenL R cs cs') (h1:cs'.all AV.one = true):RenO R (.cells cs e sz gr) (.cells cs' e sz gr):=fun B g g' w i j hF hi hij k => by
 obtain ⟨x,c,k1,k2,k3,k4,k5,k6,k7,k8,k9,k10,k11⟩:=k
 have hl:=h.length
 exact ⟨x,c,hi i j x hij k1,k2,k3,k4,by rw [hl]; exact k5,fun e => by rw [hl]; exact k6 e,k7,k8,by rw [hl]; exact h.rv (fun b o x hx => by rw [hF]; exact hx) hi k9,h1,fun o => by rw [hF]; exact k11 o⟩

def outNo (k:Nat) (ρ:Nat -> Nat) (n:Nat) (i:Nat):Nat:=if i < k then ρ i else n + (i - k)

structure Beside (k:Nat) (ρ:Nat -> Nat) (σ σs' σ':State):Prop where
 next:σ'.next = σ.next + (σs'.next - k)
 objs:∀ i,i < σs'.next -> σ'.objs (outNo k ρ σ.next i) = .dead \/ (σs'.objs i ≠ .dead /\ RenO (fun i j => j = outNo k ρ σ.next i) (σs'.objs i) (σ'.objs (outNo k ρ σ.next i)))
 rest:∀ j,j < σ.next -> (∀ i,i < k -> j ≠ ρ i) -> σ'.objs j = σ.untok.objs j \/ σ'.objs j = .dead
 dead:∀ j,σ'.next <= j -> σ'.objs j = .dead

section
variable {B:Nat} {w0:World} {g:Ghost} {σ σs:State} {w:World} {k:Nat} {ρ:Nat -> Nat}

def heldX (g:Ghost) (σ:State) (k:Nat) (ρ:Nat -> Nat) (b:Nat):Prop:=∃ id i,σ.objs id ≠ .dead /\ isTok (σ.objs id) = false /\ (∀ j,j < k -> id ≠ ρ j) /\ g.info id = some i /\ i.blk = b

open Classical in
noncomputable def fewG (g:Ghost) (σ:State) (w:World) (k:Nat) (ρ:Nat -> Nat):Ghost:=⟨g.F,fun i => if i < k then g.info (ρ i) else none,fun b => if heldX g σ k ρ b then w.heap[b]? else g.R b⟩

structure Few (k:Nat) (ρ:Nat -> Nat) (σ σs:State):Prop where
 next:σs.next = k
 inj:∀ i j,i < k -> j < k -> ρ i = ρ j -> i = j
 live:∀ i,i < k -> σs.objs i ≠ .dead /\ σ.objs (ρ i) ≠ .dead
 dead:∀ i,k <= i -> σs.objs i = .dead
 objs:∀ i,i < k -> RenO (fun j i => i < k /\ j = ρ i) (σ.objs (ρ i)) (σs.objs i)

open Classical in
theorem Sim.few (hS:Sim B w0 g σ w) (hf:Few k ρ σ σs):Sim B w0 (fewG g σ w k ρ) σs w:=by
 have hR:∀ b,(fewG g σ w k ρ).R b = if heldX g σ k ρ b then w.heap[b]? else g.R b:=fun _ => rfl
 have hI:∀ i,(fewG g σ w k ρ).info i = if i < k then g.info (ρ i) else none:=fun _ => rfl
 have hno:∀ id i,σ.objs id ≠ .dead -> isTok (σ.objs id) = false -> g.info id = some i -> ∀ p,g.F i.blk p = none:=by
  intro id i h1 h2 h3 p
  obtain ⟨i',_,h4,_,_,h5⟩:=(hS.objs id).noF hS h1 h2
  rw [h3] at h4; cases h4
  exact h5 p
 refine ⟨hS.below,hS.size,hS.froz,fun i => ?_,fun i j pi pj h1 h2 h3 h4 h5 => ?_,fun i hi => ?_,fun b x hb => ?_,fun b o x hb => ?_,fun i x h1 h2 => ?_⟩
 ·rcases Nat.lt_or_ge i k with hi | hi
  ·refine hf.objs i hi B g _ w (ρ i) i rfl (fun j i x hij hx => ?_) ⟨hi,rfl⟩ (hS.objs (ρ i))
   rw [hI,if_pos hij.1,<-hij.2]; exact hx
  ·rw [hf.dead i hi]; trivial
 ·have hi:i < k:=by
   apply Classical.byContradiction; intro hn; exact h3 (hf.dead i (by omega))
  have hj:j < k:=by
   apply Classical.byContradiction; intro hn; exact h4 (hf.dead j (by omega))
  rw [hI,if_pos hi] at h1
  rw [hI,if_pos hj] at h2
  exact hS.inj _ _ _ _ h1 h2 (hf.live i hi).2 (hf.live j hj).2 (fun e => h5 (hf.inj i j hi hj e))
 ·rw [hf.next] at hi
  exact ⟨by rw [hI,if_neg (by omega)],hf.dead i hi⟩
 ·rw [hR] at hb
  split at hb
  ·exact hb
  ·exact hS.res b x hb
 ·rw [hR] at hb
  split at hb
  ·rename_i hh
   obtain ⟨id,i,h1,h2,_,h3,rfl⟩:=hh
   exact hno id i h1 h2 h3 o
  ·exact hS.resF b o x hb
 ·have hi:i < k:=by
   apply Classical.byContradiction; intro hn; exact h1 (hf.dead i (by omega))
  rw [hI,if_pos hi] at h2
  rw [hR,if_neg]
  ·exact hS.resO _ _ (hf.live i hi).2 h2
  ·rintro ⟨id,y,h3,h4,h5,h6,h7⟩
   exact hS.inj id (ρ i) y x h6 h2 h3 (hf.live i hi).2 (h5 i hi) h7

open Classical in
theorem Sim.all {g':Ghost} {σs' σ':State} {w':World} (hS:Sim B w0 g σ w) (hf:Few k ρ σ σs) (hS':Sim B w0 g' σs' w') (hle:(fewG g σ w k ρ).Le g') (hb:Beside k ρ σ σs' σ') :
  let G:Ghost:=⟨g'.F,fun j => if j < σ.next then g.info j else g'.info (k + (j - σ.next)),g.R⟩
  Sim B w0 G σ' w' /\ g.Le G /\ ∀ i j x,j = outNo k ρ σ.next i -> g'.info i = some x -> G.info j = some x:=by
 intro G
 have hGI:∀ j,G.info j = if j < σ.next then g.info j else g'.info (k + (j - σ.next)):=fun _ => rfl
 have hFI:∀ i,(fewG g σ w k ρ).info i = if i < k then g.info (ρ i) else none:=fun _ => rfl
 have hlt:∀ j x,g.info j = some x -> j < σ.next:=fun j x hx => by
  apply Classical.byContradiction; intro hn
  rw [(hS.next j (by omega)).1] at hx; cases hx
 have hR:∀ b,g'.R b = if heldX g σ k ρ b then w.heap[b]? else g.R b:=fun b => by rw [hle.R]; rfl
 have hle2:g.Le G:=⟨fun b o v h => hle.F b o v h,fun id i h => by rw [hGI,if_pos (hlt _ _ h)]; exact h,rfl⟩
 have blkS:∀ i,i < k -> ∃ x,g.info (ρ i) = some x /\ g'.info i = some x:=fun i hi => by
  obtain ⟨x,h1,_⟩:=(hS.objs (ρ i)).blk (hf.live i hi).2
  exact ⟨x,h1,hle.info i x (by rw [hFI,if_pos hi]; exact h1)⟩
 have hk:k <= σs'.next:=by
  apply Classical.byContradiction; intro hn
  obtain ⟨x,_,h2⟩:=blkS (k - 1) (by omega)
  rw [(hS'.next (k - 1) (by omega)).1] at h2; cases h2
 have hout:∀ i j x,j = outNo k ρ σ.next i -> g'.info i = some x -> G.info j = some x:=by
  rintro i j x rfl hx
  unfold outNo
  split
  ·rename_i hi
   obtain ⟨y,h1,h2⟩:=blkS i hi
   rw [hx] at h2; cases h2
   rw [hGI,if_pos (hlt _ _ h1)]; exact h1
  ·rename_i hi
   rw [hGI,if_neg (by omega)]
   have:k + (σ.next + (i - k) - σ.next) = i:=by omega
   rw [this]; exact hx
 have held:∀ id i,σ.objs id ≠ .dead -> isTok (σ.objs id) = false -> (∀ j,j < k -> id ≠ ρ j) -> g.info id = some i -> w'.heap[i.blk]? = w.heap[i.blk]? /\ (∀ p,g'.F i.blk p = none) /\ ∃ x,g'.R i.blk = some x:=by
  intro id i h1 h2 hni h3
  obtain ⟨i',x,h4,_,h5,h6⟩:=(hS.objs id).noF hS h1 h2
  rw [h3] at h4; cases h4
  have hh:heldX g σ k ρ i.blk:=⟨id,i,h1,h2,hni,h3,rfl⟩
  have hx:g'.R i.blk = some x:=by rw [hR,if_pos hh,h5]
  exact ⟨by rw [hS'.res _ _ hx,h5],fun p => hS'.resF _ p _ hx,x,hx⟩
 have hun:∀ id,σ.untok.objs id ≠ .dead -> σ.objs id ≠ .dead /\ isTok (σ.objs id) = false /\ σ.untok.objs id = σ.objs id:=by
  intro id hid
  unfold State.untok at hid ⊢
  dsimp only at hid ⊢
  cases ho:σ.objs id <;> rw [ho] at hid <;> simp_all [isTok]
 have hρ:∀ i,i < k -> ρ i < σ.next:=fun i hi => hS.live (hf.live i hi).2
 -- each live object is one of the few,or stands beside them
 have cases':∀ j,σ'.objs j ≠ .dead -> (∃ i,i < σs'.next /\ j = outNo k ρ σ.next i /\ σs'.objs i ≠ .dead /\ RenO (fun i j => j = outNo k ρ σ.next i) (σs'.objs i) (σ'.objs j)) \/
   (j < σ.next /\ (∀ i,i < k -> j ≠ ρ i) /\ σ.objs j ≠ .dead /\ isTok (σ.objs j) = false /\ σ'.objs j = σ.objs j):=by
  intro j hj
  have hjn:j < σ'.next:=by
   apply Classical.byContradiction; intro hn; exact hj (hb.dead j (by omega))
  rcases Nat.lt_or_ge j σ.next with h1 | h1
  ·by_cases hi:∃ i,i < k /\ j = ρ i
   ·obtain ⟨i,hik,rfl⟩:=hi
    have e:outNo k ρ σ.next i = ρ i:=by unfold outNo; rw [if_pos hik]
    rcases hb.objs i (by omega) with h2 | ⟨h2,h3⟩
    ·rw [e] at h2; exact absurd h2 hj
    ·rw [e] at h3; exact .inl ⟨i,by omega,e.symm,h2,h3⟩
   ·right
    have hni:∀ i,i < k -> j ≠ ρ i:=fun i hik e => hi ⟨i,hik,e⟩
    rcases hb.rest j h1 hni with h2 | h2
    ·rw [h2] at hj
     obtain ⟨h3,h4,h5⟩:=hun j hj
     exact ⟨h1,hni,h3,h4,by rw [h2,h5]⟩
    ·exact absurd h2 hj
  ·left
   have hi:k + (j - σ.next) < σs'.next:=by have:=hb.next; omega
   have e:outNo k ρ σ.next (k + (j - σ.next)) = j:=by unfold outNo; rw [if_neg (by omega)]; omega
   rcases hb.objs _ hi with h2 | ⟨h2,h3⟩
   ·rw [e] at h2; exact absurd h2 hj
   ·rw [e] at h3; exact ⟨_,hi,e.symm,h2,h3⟩
 have infoS:∀ i j x,j = outNo k ρ σ.next i -> σs'.objs i ≠ .dead -> G.info j = some x -> g'.info i = some x:=by
  intro i j x hj hd hx
  obtain ⟨y,h1,_⟩:=(hS'.objs i).blk hd
  have:=hout i j y hj h1
  rw [hx] at this; cases this; exact h1
 refine ⟨⟨hS'.below,hS'.size,hS'.froz,fun j => ?_,fun i j pi pj h1 h2 h3 h4 h5 => ?_,fun j hj => ?_,fun b x hbx => ?_,fun b o x hbx => ?_,fun j x h1 h2 => ?_⟩,hle2,hout⟩
 ·by_cases hd:σ'.objs j = .dead
  ·rw [hd]; trivial
  ·rcases cases' j hd with ⟨i,hi,rfl,h1,h2⟩ | ⟨h1,h2,h3,h4,h5⟩
   ·exact h2 B g' G w' i _ rfl (fun i j x e hx => hout i j x e hx) rfl (hS'.objs i)
   ·rw [h5]
    refine (hS.objs j).keep hle2 (fun i hi => (held j i h3 h4 h2 hi).1) (fun i b hi _ => ?_)
    have hk2:=(held j i h3 h4 h2 hi).2.1 b
    show g'.F i.blk b = g.F i.blk b
    rw [hk2]
    cases hv:g.F i.blk b with
    | none => rfl
    | some v => have:=hle.F _ _ v hv; rw [hk2] at this; cases this
 ·rcases cases' i h3 with ⟨a,ha,e1,hd1,_⟩ | ⟨ha,hn1,hd1,ht1,_⟩
  ·rcases cases' j h4 with ⟨c,hc,e2,hd2,_⟩ | ⟨hc,hn2,hd2,ht2,_⟩
   ·exact hS'.inj a c pi pj (infoS a i pi e1 hd1 h1) (infoS c j pj e2 hd2 h2) hd1 hd2 (fun e => h5 (by rw [e1,e2,e]))
   ·rw [hGI,if_pos hc] at h2
    obtain ⟨_,_,x,hx⟩:=held j pj hd2 ht2 hn2 h2
    intro e
    rw [<-e,hS'.resO a pi hd1 (infoS a i pi e1 hd1 h1)] at hx; cases hx
  ·rw [hGI,if_pos ha] at h1
   rcases cases' j h4 with ⟨c,hc,e2,hd2,_⟩ | ⟨hc,hn2,hd2,ht2,_⟩
   ·obtain ⟨_,_,x,hx⟩:=held i pi hd1 ht1 hn1 h1
    intro e
    rw [e,hS'.resO c pj hd2 (infoS c j pj e2 hd2 h2)] at hx; cases hx
   ·rw [hGI,if_pos hc] at h2
    exact hS.inj i j pi pj h1 h2 hd1 hd2 h5
 ·refine ⟨?_,hb.dead j hj⟩
  have:=hb.next
  rw [hGI,if_neg (by omega)]
  exact (hS'.next _ (by omega)).1
 ·have hb':g.R b = some x:=hbx
  have:¬ heldX g σ k ρ b:=by
   rintro ⟨id,i,h1,h2,_,h3,rfl⟩
   rw [hS.resO id i h1 h3] at hb'; cases hb'
  exact hS'.res b x (by rw [hR,if_neg this]; exact hb')
 ·have hb':g.R b = some x:=hbx
  have:¬ heldX g σ k ρ b:=by
   rintro ⟨id,i,h1,h2,_,h3,rfl⟩
   rw [hS.resO id i h1 h3] at hb'; cases hb'
  exact hS'.resF b o x (by rw [hR,if_neg this]; exact hb')
 ·show g.R x.blk = none
  rcases cases' j h1 with ⟨a,ha,e1,hd1,_⟩ | ⟨ha,hn1,hd1,ht1,_⟩
  ·have h3:=hS'.resO a x hd1 (infoS a j x e1 hd1 h2)
   rw [hR] at h3
   split at h3
   ·rename_i hh
    obtain ⟨id,i,h4,h5,h6,h7,h8⟩:=hh
    obtain ⟨y,h9,_,h10⟩:=(hS.objs id).blk h4
    rw [h7] at h9; cases h9
    rw [<-h8,Array.getElem?_eq_none_iff] at h3
    omega
   ·exact h3
  ·rw [hGI,if_pos ha] at h2
   exact hS.resO j x hd1 h2
end

theorem ACalls.frame {E:Env} {f:Nat} {args argss:List AV} {Qs Q:AV -> State -> Prop} {σ σs:State} {k:Nat} {ρ:Nat -> Nat} (hG:∀ i,NoId (E.G i)) (hf:Few k ρ σ σs)
  (ha:RenL (fun j i => i < k /\ j = ρ i) args argss) (h:ACalls E f argss σs Qs)
  (hQ:∀ v σs',Qs v σs' -> ∃ v' σ',RenP (fun i j => j = outNo k ρ σ.next i) v v' /\ Beside k ρ σ σs' σ' /\ Q v' σ'):ACalls E f args σ Q:=by
 classical
 refine ⟨fun g w vs hRG hS hv => ?_⟩
 refine (h.run (fewG g σ w k ρ) w vs (fun i => hG i g _ _ (fun _ _ _ h => h) (hRG i)) (hS.few hf) (ha.rv (g:=g) (fun _ _ _ h => h) (fun j i x hij hx => ?_) hv)).mono fun e w' kk => ?_
 ·show (if i < k then g.info (ρ i) else none) = some x
  rw [if_pos hij.1,<-hij.2]; exact hx
 ·cases e with
  | returned u =>
   obtain ⟨g',σs',a,h1,h2,h3,h4⟩:=kk
   obtain ⟨v',σ',h5,h6,h7⟩:=hQ _ _ h4
   obtain ⟨h8,h9,h10⟩:=hS.all hf h2 h1 h6
   exact ⟨_,σ',v',h9,h8,h5 g' _ u (fun _ _ _ h => h) h10 h3,h7⟩
  | outgrown => exact kk
  | panicked c => exact kk
end Go.V
/- The W-layer, part 7: loops over states that are not told whole. -/
namespace Go.V
open Go.RowKit

structure LS (X:Type) where
 F:X -> List (Nat × TV)
 FL:X -> List (Nat × List AV)
 S:X -> State
 I:X -> Prop
 μ:X -> Nat
 Ex:X -> Exit -> AAct -> State -> Prop

def LS.post {X:Type} (l:LS X) (x:X):Post:=fun e a σ => match e with
 | .normal => ∃ x',(l.I x' /\ l.μ x' < l.μ x) /\ atF a (l.F x') (l.FL x') ((l.S x').Le σ)
 | e => l.Ex x e a σ

section
variable {E:Env} {rd:Option Nat} {n:Nat} {σ:State} {a:AAct}

theorem awp_loopS {X:Type} (l:LS X) {c:Code} {Q:Post} (hb:∀ x,l.I x -> AWp E rd n c (l.post x) (frm (l.F x) (l.FL x)) (l.S x))
  (hx:∀ x,l.I x -> ∀ e a σ,e ≠ .normal -> l.Ex x e a σ -> ∃ a' σ',a'.Wk a /\ σ'.Le σ /\ Q e a' σ')
  {x0:X} (h0:l.I x0) (ha:atF a (l.F x0) (l.FL x0) ((l.S x0).Le σ)):AWp E rd n (.loop c) Q a σ:=by
 refine .post_wk (awp_loop (fun k a σ => ∃ x,l.I x /\ l.μ x = k /\ (frm (l.F x) (l.FL x)).Wk a /\ (l.S x).Le σ) (m:=l.μ x0) ⟨x0,h0,rfl,(atF_ok ha).1,(atF_ok ha).2⟩ ?_)
 rintro k a σ ⟨x,hI,rfl,h1,h2⟩
 refine .pre_wk h1 h2 ((hb x hI).mono fun e a σ k => ?_)
 cases e with
 | normal =>
  obtain ⟨x',⟨h3,h4⟩,h5⟩:=k
  exact ⟨l.μ x',h4,x',h3,rfl,(atF_ok h5).1,(atF_ok h5).2⟩
 | _ => exact hx x hI _ _ _ (by simp) k
end
end Go.V
/- The W-layer, part 8: objects under names. -/
namespace Go.V
open Go.RowKit

abbrev Heap (R:Type):=R -> Option (Nat × AObj)

structure At {R:Type} (c:Heap R) (σ:State):Prop where
 at_:∀ r id o,c r = some (id,o) -> id < σ.next /\ σ.objs id = o
 inj:∀ r s id o o',c r = some (id,o) -> c s = some (id,o') -> r = s

def hup {R:Type} [DecidableEq R] (c:Heap R) (r:R) (x:Option (Nat × AObj)):Heap R:=fun s => if s = r then x else c s

section
variable {R:Type} [DecidableEq R] {c:Heap R} {σ:State} {r:R} {id:Nat} {o o':AObj}

theorem hup_self {x:Option (Nat × AObj)}:hup c r x r = x:=if_pos rfl
theorem hup_ne {x:Option (Nat × AObj)} {s:R} (h:s ≠ r):hup c r x s = c s:=if_neg h

omit [DecidableEq R] in
theorem At.obj (h:At c σ) (hr:c r = some (id,o)):σ.objs id = o:=(h.at_ _ _ _ hr).2
omit [DecidableEq R] in
theorem At.lt (h:At c σ) (hr:c r = some (id,o)):id < σ.next:=(h.at_ _ _ _ hr).1

theorem At.set (h:At c σ) (hr:c r = some (id,o)) (o':AObj):At (hup c r (some (id,o'))) (σ.set id o') where
 at_ s i p hs:=by
  unfold hup at hs
  split at hs
  ·cases hs; exact ⟨h.lt hr,if_pos rfl⟩
  ·rename_i hn
   refine ⟨(h.at_ _ _ _ hs).1,?_⟩
   show (if i = id then o' else σ.objs i) = p
   rw [if_neg (fun e => hn (h.inj s r id p o (by rw [<-e]; exact hs) hr))]
   exact (h.at_ _ _ _ hs).2
 inj s t i p q hs ht:=by
  unfold hup at hs ht
  split at hs
  ·cases hs
   rename_i e1
   split at ht
   ·rename_i e2; rw [e1,e2]
   ·rw [e1]; exact (h.inj _ _ _ _ _ ht hr).symm
  ·split at ht
   ·rename_i e2; cases ht; rw [e2]; exact h.inj _ _ _ _ _ hs hr
   ·exact h.inj _ _ _ _ _ hs ht
theorem At.drop (h:At c σ) (r:R):At (hup c r none) σ where
 at_ s i p hs:=by
  unfold hup at hs
  split at hs
  ·cases hs
  ·exact h.at_ _ _ _ hs
 inj s t i p q hs ht:=by
  unfold hup at hs ht
  split at hs
  ·cases hs
  ·split at ht
   ·cases ht
   ·exact h.inj _ _ _ _ _ hs ht
theorem hup_hup {x y:Option (Nat × AObj)}:hup (hup c r x) r y = hup c r y:=by
 funext s; unfold hup; split <;> rfl
theorem At.kill (h:At c σ) (hr:c r = some (id,o)):At (hup c r none) (σ.set id .dead):=by
 have:=(h.set hr .dead).drop r
 rwa [hup_hup] at this
theorem At.new (h:At c σ) (r:R) (o:AObj):At (hup c r (some (σ.next,o))) (σ.new o) where
 at_ s i p hs:=by
  unfold hup at hs
  split at hs
  ·cases hs; exact ⟨Nat.lt_succ_self _,if_pos rfl⟩
  ·have:=h.at_ _ _ _ hs
   refine ⟨Nat.lt_succ_of_lt this.1,?_⟩
   show (if i = σ.next then o else σ.objs i) = p
   rw [if_neg (by omega)]; exact this.2
 inj s t i p q hs ht:=by
  unfold hup at hs ht
  split at hs
  ·cases hs
   rename_i e1
   split at ht
   ·rename_i e2; rw [e1,e2]
   ·have:=h.lt ht; omega
  ·split at ht
   ·cases ht; have:=h.lt hs; omega
   ·exact h.inj _ _ _ _ _ hs ht
theorem At.grow (h:At c σ) (hr:c r = some (id,o)) (o':AObj):At (hup c r (some (σ.next,o'))) ((σ.set id .dead).new o'):=by
 have:=(h.kill hr).new r o'
 rwa [hup_hup] at this
omit [DecidableEq R] in
theorem At.untok (h:At c σ) (ht:∀ r id o,c r = some (id,o) -> isTok o = false):At c σ.untok where
 at_ s i p hs:=by
  have h1:=h.at_ _ _ _ hs
  refine ⟨h1.1,?_⟩
  have h2:=ht _ _ _ hs
  unfold State.untok
  dsimp only
  rw [h1.2]
  cases p <;> first | rfl | cases h2
 inj:=h.inj
omit [DecidableEq R] in
theorem At.sub {d:Heap R} (h:At c σ) (hs:∀ r x,d r = some x -> c r = some x):At d σ where
 at_ r id o hr:=h.at_ r id o (hs _ _ hr)
 inj r s id o o' h1 h2:=h.inj r s id o o' (hs _ _ h1) (hs _ _ h2)
end
end Go.V
/- The W-layer, part 9: conditions of codes that are cut in parts. -/
namespace Go.V
open Go.RowKit

def headId:Code -> Option Nat
 | .region id _ _ => some id
 | .seq a _ => headId a
 | .loop c => headId c
 | .block _ c => headId c
 | _ => none
def isCut (cuts:List Nat) (y:Code):Bool :=
 match headId y with
 | some id => cuts.any fun x => Nat.beq x id
 | none => false

def partsIn (cuts:List Nat):Code -> List Code
 | .seq a b => partsIn cuts a ++ (match isCut cuts b with | true => [b] | false => partsIn cuts b)
 | .cond _ a b => partsIn cuts a ++ partsIn cuts b
 | .block _ c => partsIn cuts c
 | .loop c => [.loop c]
 | .rangeFunc f ps x y => [.rangeFunc f ps x y]
 | _ => []

def wpX (cuts:List Nat) (E:Env) (H:Hand) (L:LHand) (an:FnAnn) (hs:FnHint):Code -> Post -> AAct -> State -> Prop
 | .seq x y,Q,a,σ => wpX cuts E H L an hs x (fun e a σ => match e with
  | .normal => (match isCut cuts y with | true => L y Q a σ | false => wpX cuts E H L an hs y Q a σ)
  | e => Q e a σ) a σ
 | .cond c x y,Q,a,σ => match (tval E.G a c).low with
  | .bool b => bcase b (wpX cuts E H L an hs x Q (a.setC c true) σ) (wpX cuts E H L an hs y Q (a.setC c false) σ)
  | _ => False
 | .block id c,Q,a,σ => wpX cuts E H L an hs c (fun e a σ => match e with | .exit id' => (match Nat.beq id' id with | true => Q .normal a σ | false => Q (.exit id') a σ) | e => Q e a σ) a σ
 | .loop c,Q,a,σ => L (.loop c) Q a σ
 | .rangeFunc f ps x y,Q,a,σ => L (.rangeFunc f ps x y) Q a σ
 | .skip,Q,a,σ => Q .normal a σ
 | .region id ops false,Q,a,σ => opsC E H an hs id ops ops.toList 0 (Q .normal) a σ
 | .region id ops true,Q,a,σ => drawC E H an hs id ops (ancOf ops) (an.eff id) ((an.eff id).length + 1) [] (Q .normal) a σ
 | .exit id,Q,a,σ => Q (.exit id) a σ
 | .ret,Q,a,σ => Q .ret a σ
 | _,_,_,_ => False

section
variable {E:Env} {H:Hand} {rd:Option Nat} {n:Nat} {an:FnAnn} {hs:FnHint} {cuts:List Nat}
theorem wpX_ok (hH:HOk1 E H) (hm:E.P.follows .mixedOrders = true) {L:LHand}:∀ (c:Code) (Q:Post) (a:AAct) (σ:State),(∀ l ∈ partsIn cuts c,codeOk n an l = true -> ∀ Q a σ,L l Q a σ -> AWp E rd n l Q a σ) -> codeOk n an c = true -> wpX cuts E H L an hs c Q a σ -> AWp E rd n c Q a σ
 | .skip,Q,a,σ,hL,_,h => awp_skip h
 | .region id ops false,Q,a,σ,hL,hc,h => by
  simp only [codeOk,Bool.and_eq_true] at hc
  exact awp_region (hok_self E) hc.1 (opsC_ok hH _ _ _ _ h)
 | .region id ops true,Q,a,σ,hL,hc,h => by
  simp only [codeOk,Bool.and_eq_true,Bool.not_true,Bool.false_or] at hc
  exact awp_draw (hok_self E) hm hc.1 hc.2 (drawC_ok hH _ _ _ _ _ h)
 | .seq x y,Q,a,σ,hL,hc,h => by
  simp only [codeOk,Bool.and_eq_true] at hc
  refine awp_seq ((wpX_ok hH hm x _ a σ (fun l hl => hL l (List.mem_append_left _ hl)) hc.1 h).mono fun e a σ k => ?_)
  have key:(match isCut cuts y with | true => L y Q a σ | false => wpX cuts E H L an hs y Q a σ) -> AWp E rd n y Q a σ:=by
   intro k
   split at k
   ·rename_i e
    exact hL y (by simp only [partsIn]; rw [e]; simp) hc.2 _ _ _ k
   ·rename_i e
    exact wpX_ok hH hm y Q a σ (fun l hl => hL l (by simp only [partsIn]; rw [e]; exact List.mem_append_right _ hl)) hc.2 k
  cases e <;> first | exact key k | exact k
 | .cond c x y,Q,a,σ,hL,hc,h => by
  simp only [codeOk,Bool.and_eq_true] at hc
  simp only [wpX] at h
  split at h
  ·rename_i b hb
   refine awp_cond hb (fun e => ?_) (fun e => ?_)
   ·subst e; rw [setC_same hb] at h; exact wpX_ok hH hm x Q _ σ (fun l hl => hL l (List.mem_append_left _ hl)) hc.1 h
   ·subst e; simp only [bcase] at h; rw [setC_same hb] at h; exact wpX_ok hH hm y Q _ σ (fun l hl => hL l (List.mem_append_right _ hl)) hc.2 h
  ·exact h.elim
 | .block id c,Q,a,σ,hL,hc,h => by
  refine awp_block ((wpX_ok hH hm c _ a σ hL hc h).mono fun e a σ k => ?_)
  cases e with
  | exit id' =>
   simp only at k ⊢
   split at k
   ·rename_i e; rw [if_pos (by simpa using e)]; exact k
   ·rename_i e; rw [if_neg (by rintro rfl; rw [Nat.beq_refl] at e; cases e)]; exact k
  | _ => exact k
 | .loop c,Q,a,σ,hL,hc,h => hL _ (by simp [partsIn]) hc _ _ _ h
 | .rangeFunc f ps x y,Q,a,σ,hL,hc,h => hL _ (by simp [partsIn]) hc _ _ _ h
 | .exit id,Q,a,σ,hL,hc,h => awp_exit h
 | .ret,Q,a,σ,hL,hc,h => awp_ret h
 | .scope c,Q,a,σ,hL,hc,h => h.elim
 | .label l,Q,a,σ,hL,hc,h => h.elim
 | .goto l,Q,a,σ,hL,hc,h => h.elim
 | .refuse y,Q,a,σ,hL,hc,h => h.elim
end

def bodyX (cuts:List Nat) (E:Env) (H:Hand) (L:LHand) (A:Nat -> FnAnn) (hs:FnHint) (f:Nat) (args:List AV) (σ:State) (Q:AV -> State -> Prop):Prop :=
 match E.P.funcs[f]? with
 | some fn => match fn.body with
  | some c => match codeOk fn.ntmps (A f) c && Nat.ble args.length fn.ntmps with
   | true => wpX cuts E H L (A f) hs c (retC E.P fn.results.toList Q) (initA args) σ
   | false => False
  | none => False
 | none => False

def fnParts (P:Program) (cuts:List Nat) (f:Nat):List Code :=
 match P.funcs[f]? with
 | some fn => match fn.body with
  | some c => partsIn cuts c
  | none => []
 | none => []

theorem bodyX_ok {cuts:List Nat} {E:Env} {H:Hand} {L:LHand} {A:Nat -> FnAnn} {hs:FnHint} {f:Nat} {args:List AV} {σ:State} {Q:AV -> State -> Prop} (hm:E.P.follows .mixedOrders = true) (hH:HOk1 E H)
  (hL:∀ l ∈ fnParts E.P cuts f,codeOk (fnTmps E.P f) (A f) l = true -> ∀ Q a σ,L l Q a σ -> AWp E none (fnTmps E.P f) l Q a σ) (h:bodyX cuts E H L A hs f args σ Q):ACalls E f args σ Q:=by
 unfold bodyX at h
 unfold fnParts fnTmps at hL
 split at h
 ·rename_i fn hf
  rw [hf] at hL
  dsimp only at hL
  split at h
  ·rename_i c hb
   rw [hb] at hL
   dsimp only at hL
   split at h
   ·rename_i hc
    rw [Bool.and_eq_true] at hc
    exact acalls_body hf hb (Nat.le_of_ble_eq_true hc.2) ((wpX_ok hH hm c _ _ σ hL hc.1 h).mono fun e a σ k => retC_ok k)
   ·exact h.elim
  ·exact h.elim
 ·exact h.elim

def fnPart (P:Program) (cuts:List Nat) (f i:Nat):Code:=((fnParts P cuts f)[i]?).getD .skip
def bodyOf:Code -> Code
 | .loop c => c
 | c => c
def subParts (cuts:List Nat) (c:Code):List Code :=
 match bodyOf c with
 | .seq a b => partsIn cuts (.seq a b)
 | c => partsIn cuts c
def subPart (cuts:List Nat) (c:Code) (i:Nat):Code:=((subParts cuts c)[i]?).getD .skip

def handL:List (Nat × LHand) -> LHand
 | [],_,_,_,_ => False
 | (i,l) :: r,c,Q,a,σ => match headId c with
  | some id => (match Nat.beq i id with
   | true => l c Q a σ
   | false => handL r c Q a σ)
  | none => False
theorem handL_ok {P:Code -> Post -> AAct -> State -> Prop} {i:Nat} {l:LHand} {r:List (Nat × LHand)} {c:Code} {Q:Post} {a:AAct} {σ:State} (h:handL ((i,l) :: r) c Q a σ) (h1:headId c = some i -> l c Q a σ -> P c Q a σ) (h2:handL r c Q a σ -> P c Q a σ):P c Q a σ:=by
 unfold handL at h
 split at h
 ·rename_i id hid
  split at h
  ·rename_i e
   have:i = id:=Nat.eq_of_beq_eq_true e
   subst this; exact h1 hid h
  ·exact h2 h
 ·exact h.elim

structure CS (Y:Type) where
 I:Y -> Prop
 F:Y -> List (Nat × TV)
 FL:Y -> List (Nat × List AV)
 S:Y -> State
def CS.post {Y:Type} (c:CS Y):Post:=fun e a σ => match e with
 | .normal => ∃ y,c.I y /\ atF a (c.F y) (c.FL y) ((c.S y).Le σ)
 | _ => False

end Go.V
