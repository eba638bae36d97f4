/- A part of the proof of the statement S8 (texts brought together and shortened by a program of this work). -/
import Derived.Test.YtgnjidopnplbbaaGreatDoorQ2
set_option linter.unusedSimpArgs false
set_option linter.unusedVariables false
namespace Go.V
open Go.RowKit

def capB:Cap->Cap->Bool
 | .any,.any | .nn,.nn | .full,.full=>true
 | .tok i,.tok j=>i==j
 | _,_=>false

def fnB:Fn->Fn->Bool
 | .func i,.func j=>i==j
 | _,_=>false
theorem fnB_ok {a b:Fn} (h:fnB a b=true):a=b:=by
 cases a <;> cases b <;> simp [fnB] at h <;> rw [h]

def kindB (a b:IntKind):Bool:=decide (a=b)

mutual
def AV.same:AV->AV->Bool
 | .bool a,.bool b=>a==b
 | .int k a,.int j b=>kindB k j&&a==b
 | .str a,.str b=>zAI a b
 | .nilptr,.nilptr | .nilslice,.nilslice | .nilmap,.nilmap | .nilfunc,.nilfunc | .niliface,.niliface=>true
 | .ptr i o,.ptr j p=>i==j&&o==p
 | .vptr xs,.vptr ys=>AV.sameL xs ys
 | .slice s xs m,.slice r ys k=>s==r&&capB m k&&AV.sameL xs ys
 | .rslice i o l,.rslice j p k=>i==j&&o==p&&l==k
 | .view i o l,.view j p k=>i==j&&o==p&&l==k
 | .map i,.map j=>i==j
 | .yield i,.yield j=>i==j
 | .agg xs,.agg ys=>AV.sameL xs ys
 | .tuple xs,.tuple ys=>AV.sameL xs ys
 | .iface t v,.iface u w=>t==u&&AV.same v w
 | .func f x y,.func g z w=>fnB f g&&(AV.sameL x z&&AV.sameL y w)
 | .undef,.undef=>true
 | _,_=>false
def AV.sameL:List AV->List AV->Bool
 | [],[]=>true
 | x :: xs,y :: ys=>AV.same x y&&AV.sameL xs ys
 | _,_=>false
end

theorem bseq_ok {a b:ByteArray} (h:zAI a b=true):a=b:=by
 unfold zAI at h
 have:=eq_of_beq h
 obtain ⟨⟨x⟩⟩:=a
 obtain ⟨⟨y⟩⟩:=b
 simp only at this
 rw [this]

theorem capB_ok:∀ {a b:Cap},capB a b=true->a=b
 | .any,.any,_ | .nn,.nn,_ | .full,.full,_=>rfl
 | .tok i,.tok j,h=>by simp [capB] at h; rw [h]

mutual
theorem AV.same_ok:∀ (a b:AV),AV.same a b=true->a=b
 | .bool a,b,h=>by cases b <;> simp [AV.same] at h; rw [h]
 | .int k a,b,h=>by cases b <;> simp [AV.same,kindB] at h; rw [h.1,h.2]
 | .str a,b,h=>by cases b <;> simp [AV.same] at h; rw [bseq_ok h]
 | .nilptr,b,h=>by cases b <;> simp [AV.same] at h; rfl
 | .nilslice,b,h=>by cases b <;> simp [AV.same] at h; rfl
 | .nilmap,b,h=>by cases b <;> simp [AV.same] at h; rfl
 | .nilfunc,b,h=>by cases b <;> simp [AV.same] at h; rfl
 | .niliface,b,h=>by cases b <;> simp [AV.same] at h; rfl
 | .ptr i o,b,h=>by cases b <;> simp [AV.same] at h; rw [h.1,h.2]
 | .vptr xs,b,h=>by cases b <;> simp [AV.same] at h; rw [AV.sameL_ok _ _ h]
 | .slice s xs m,b,h=>by cases b <;> simp [AV.same] at h; rw [AV.sameL_ok _ _ h.2,h.1.1,capB_ok h.1.2]
 | .rslice i o l,b,h=>by cases b <;> simp [AV.same] at h; rw [h.1.1,h.1.2,h.2]
 | .view i o l,b,h=>by cases b <;> simp [AV.same] at h; rw [h.1.1,h.1.2,h.2]
 | .map i,b,h=>by cases b <;> simp [AV.same] at h; rw [h]
 | .yield i,b,h=>by cases b <;> simp [AV.same] at h; rw [h]
 | .agg xs,b,h=>by cases b <;> simp [AV.same] at h; rw [AV.sameL_ok _ _ h]
 | .tuple xs,b,h=>by cases b <;> simp [AV.same] at h; rw [AV.sameL_ok _ _ h]
 | .iface t v,b,h=>by cases b <;> simp [AV.same] at h; rw [h.1,AV.same_ok _ _ h.2]
 | .undef,b,h=>by cases b <;> simp [AV.same] at h; rfl
 | .func fn x y,b,h=>by cases b <;> simp [AV.same] at h; rw [fnB_ok h.1,AV.sameL_ok _ _ h.2.1,AV.sameL_ok _ _ h.2.2]
theorem AV.sameL_ok:∀ (a b:List AV),AV.sameL a b=true->a=b
 | [],b,h=>by cases b <;> simp [AV.sameL] at h; rfl
 | x :: xs,b,h=>by
  cases b with
  | nil=>simp [AV.sameL] at h
  | cons y ys=>simp [AV.sameL] at h; rw [AV.same_ok _ _ h.1,AV.sameL_ok _ _ h.2]
end

def TV.same:TV->TV->Bool
 | .v a,.v b=>AV.same a b
 | .l i o,.l j p=>i==j&&o==p
 | _,_=>false
theorem TV.same_ok {a b:TV} (h:TV.same a b=true):a=b:=by
 cases a <;> cases b <;> simp [TV.same] at h
 ·rw [AV.same_ok _ _ h]
 ·rw [h.1,h.2]

def zG1 (o:Op):Bool :=
 match o with
 | .move _ | .assign _ | .pick _ _ _ | .build _ _ | .load _ _ | .nilCheck _ | .binOp _ _ _ _ _ | .unOp _ _ _ | .convert _ _ _ | .makeInterface _ _ | .makeFunc _ _ _
 | .slice _ _ _ _ _ | .fieldAddr _ _ _ | .field _ _ _ | .indexAddr _ _ _ | .index _ _ _ | .lookup _ _ _ _ | .extract _ _ | .buildSlice _ _ _=>true
 | .call c=>match c.callee with
  | .builtin .len | .builtin .max | .builtin .min=>true
  | _=>false
 | _=>false

theorem of_still {σ σ':zA6} {x:Option AV} {v:AV} (h:Res.of σ x = .ok v σ'):σ'=σ:=by
 cases x <;> simp [Res.of] at h; exact h.2.symm

theorem zG2 {P:Program} {o:Op} {ρ:Operand->AV} {σ σ':zA6} {v:AV} (hs:zG1 o=true) (h:aop P .none o ρ σ = .ok v σ'):σ'=σ:=by
 cases o <;> simp only [zG1,Bool.false_eq_true] at hs <;> simp only [aop] at h
 case call c =>
  unfold zBI at h
  cases hc:c.callee with
  | value x=>rw [hc] at hs; cases hs
  | invoke r m=>rw [hc] at hs; cases hs
  | builtin b =>
   rw [hc] at h hs
   cases b <;> simp only [Bool.false_eq_true] at hs <;> simp only at h
   all_goals (split at h <;> (try split at h) <;> first | (cases h; done) | (cases h; rfl))
 all_goals first | exact of_still h | (cases h; rfl) | (unfold zBF at h; repeat' (split at h <;> try (first | (cases h; done) | (cases h; rfl)))) | (repeat' (split at h <;> try (first | (cases h; done) | (cases h; rfl))))

theorem zG3 {P:Program} {o:Op} {ρ:Operand->AV} {σ σ1 σ2:zA6} {v1 v2:AV} (hs:zG1 o=true) (h:aop P .none o ρ σ = .both v1 σ1 v2 σ2):False:=by
 have hof:∀ (x:Option AV),Res.of σ x ≠ .both v1 σ1 v2 σ2:=fun x=>by cases x <;> simp [Res.of]
 cases o <;> simp only [zG1,Bool.false_eq_true] at hs <;> simp only [aop] at h
 case call c =>
  unfold zBI at h
  cases hc:c.callee with
  | value x=>rw [hc] at hs; cases hs
  | invoke r m=>rw [hc] at hs; cases hs
  | builtin b =>
   rw [hc] at h hs
   cases b <;> simp only [Bool.false_eq_true] at hs <;> simp only at h
   all_goals (split at h <;> (try split at h) <;> (cases h; done))
 all_goals first | exact hof _ h | (cases h; done) | (unfold zBF at h; repeat' (split at h <;> try (cases h; done))) | (repeat' (split at h <;> try (cases h; done)))

abbrev zG4:=zDN->zA6->Bool
abbrev zG5:=Tgt->List AV->zA6->(AV->zA6->Bool)->Bool

section
variable (E:Env) (H:zG5)
def zG6 (ann:Ann) (o:Oper) (K:zG4) (a:zDN) (σ:zA6):Bool :=
 match zDL E.P ann o (zAA E.G a.low) σ with
 | .ok v σ'=>K (a.put o.dst (.v v)) σ'
 | .call f args=>H f args σ fun v σ'=>K (a.put o.dst (.v v)) σ'
 | .fail=>false
 | .both _ _ _ _=>false

def newB (ann:Ann) (o:Oper) (cs:List AV) (K:zG4) (gen:Bool) (a:zDN) (σ:zA6):Bool :=
 match ann,o.dst with
 | .none,some d=>cs.all AV.one&&K (a.newL d cs) σ
 | _,_=>gen

def goB (ann:Ann) (o:Oper) (K:zG4) (a:zDN) (σ:zA6):Bool :=
 match o.op with
 | .alloc e=>match zAB E.P e with
  | some z=>newB ann o (av z).cells K (zG6 E H ann o K a σ) a σ
  | none=>false
 | .box e x=>match zDO E.G a x with
  | .v v=>newB ann o v.cells K (zG6 E H ann o K a σ) a σ
  | .l _ _=>false
 | .load t x=>match zDO E.G a x with
  | .l k off=>match zAE E.P t (a.l k) off with
   | some v=>K (a.put o.dst (.v v)) σ
   | none=>false
  | .v _=>zG6 E H ann o K a σ
 | .store t x v=>match zDO E.G a x with
  | .l k off =>
   match !(zDO E.G a v).low.isUndef&&(decide (szT E.P t=some (zDO E.G a v).low.cells.length)&&((zDO E.G a v).low.cells.all AV.one&&(Nat.ble (off+(zDO E.G a v).low.cells.length) (a.l k).length&&o.dst.isNone))) with
   | true=>K (a.setL k (zAF (a.l k) off (zDO E.G a v).low.cells)) σ
   | false=>false
  | .v _=>zG6 E H ann o K a σ
 | .fieldAddr s x f=>match zDO E.G a x with
  | .l k off=>match fldT E.P s f with
   | some (_,p,m)=>match Nat.beq m 0 with
    | true=>false
    | false=>K (a.put o.dst (.l k (off+p))) σ
   | none=>false
  | .v _=>zG6 E H ann o K a σ
 | .indexAddr t x i=>match zDO E.G a x with
  | .l k off=>match zDO E.G a i,arrT E.P t with
   | .v (.int _ j),some (len,e)=>match szT E.P e with
    | some sz=>match decide (0<=j)&&decide (j<len) with
     | true=>K (a.put o.dst (.l k (off+j.toNat*sz))) σ
     | false=>false
    | none=>false
   | _,_=>false
  | .v _=>zG6 E H ann o K a σ
 | .nilCheck x=>match zDO E.G a x with
  | .l k off=>K (a.put o.dst (.l k off)) σ
  | .v _=>zG6 E H ann o K a σ
 | .move x=>match zDO E.G a x with
  | .l k off=>K (a.put o.dst (.l k off)) σ
  | .v _=>zG6 E H ann o K a σ
 | .assign x=>match zDO E.G a x with
  | .l k off=>K (a.put o.dst (.l k off)) σ
  | .v _=>zG6 E H ann o K a σ
 | _=>zG6 E H ann o K a σ

def zG7 (ann:Ann) (ops:Array Oper) (o:Oper) (K:zG4) (a:zDN) (σ:zA6):Bool :=
 match o.guard with
 | none=>goB E H ann o K a σ
 | some (j,want)=>match (ops[j]?).bind (·.dst) with
  | none=>K (a.put o.dst (.v (.tuple []))) σ
  | some d=>match (a.t d).low with
   | .bool b=>match b==want with
    | true=>goB E H ann o K a σ
    | false=>K (a.put o.dst (.v (.tuple []))) σ
   | .undef=>false
   | _=>K (a.put o.dst (.v (.tuple []))) σ

def opsB (an:zDM) (id:Nat) (ops:Array Oper):List Oper->Nat->zG4->zDN->zA6->Bool
 | [],_,K,a,σ=>K a σ
 | o :: l,i,K,a,σ=>zG7 E H (an.ann id i) ops o (fun a σ=>opsB an id ops l (i+1) K a σ) a σ

def zG8:Ann->Bool
 | .none=>true
 | _=>false

def runB (an:zDM) (id:Nat) (ops:Array Oper):List (Oper×Nat)->zG4->zDN->zA6->Bool
 | [],K,a,σ=>K a σ
 | (o,i) :: r,K,a,σ=>zG8 (an.ann id i)&&(zG1 o.op&&zG7 E H .none ops o (fun a' _=>runB an id ops r K a' σ) a σ)

def zG9 (dst:Option Tmp) (a' a:zDN):Bool :=
 match dst with
 | some d=>TV.same (a'.t d) (a.t d)
 | none=>true

def zGA (an:zDM) (id:Nat) (ops:Array Oper):List (Oper×Nat)->zDN->zA6->Bool
 | [],a,σ=>true
 | (o,i) :: r,a,σ=>(zG8 (an.ann id i)&&(zG1 o.op&&zG7 E H .none ops o (fun a' _=>zG9 o.dst a' a) a σ))&&zGA an id ops r a σ

def allB {α:Type} (p:α->Bool):List α->Bool
 | []=>true
 | [x]=>p x
 | x :: r=>p x&&allB p r

def drawB (an:zDM) (id:Nat) (ops:Array Oper) (anc eff:List Nat):Nat->List Nat->zG4->zDN->zA6->Bool
 | 0,_,_,_,_=>false
 | f+1,done,K,a,σ =>
  runB E H an id ops (ops.toList.zipIdx.filter (zFB anc eff done)) (fun a' σ' =>
   zGA E H an id ops (ops.toList.zipIdx.filter (zFC anc eff done)) a' σ' &&
   (match eff.all (done.contains ·) with
    | true=>K a' σ'
    | false=>allB (fun (oi:Oper×Nat)=>zG7 E H (an.ann id oi.2) ops oi.1 (fun a'' σ''=>drawB an id ops anc eff f (oi.2 :: done) K a'' σ'') a' σ') (ops.toList.zipIdx.filter (zFD anc eff done)))) a σ
end

abbrev zGB:=Exit->zDN->zA6->Bool
abbrev zGC:=Code->zGB->zDN->zA6->Bool

def wpB (E:Env) (H:zG5) (L:zGC) (an:zDM):Code->zGB->zDN->zA6->Bool
 | .skip,Q,a,σ=>Q .normal a σ
 | .region id ops false,Q,a,σ=>opsB E H an id ops ops.toList 0 (Q .normal) a σ
 | .region id ops true,Q,a,σ=>drawB E H an id ops (zFW ops) (an.eff id) ((an.eff id).length+1) [] (Q .normal) a σ
 | .seq x y,Q,a,σ=>wpB E H L an x (fun e a σ=>match e with | .normal=>wpB E H L an y Q a σ | e=>Q e a σ) a σ
 | .cond c x y,Q,a,σ=>match (zDO E.G a c).low with
  | .bool true=>wpB E H L an x Q a σ
  | .bool false=>wpB E H L an y Q a σ
  | _=>false
 | .block id c,Q,a,σ=>wpB E H L an c (fun e a σ=>match e with | .exit id'=>(match Nat.beq id' id with | true=>Q .normal a σ | false=>Q (.exit id') a σ) | e=>Q e a σ) a σ
 | .loop c,Q,a,σ=>L (.loop c) Q a σ
 | .rangeFunc f ps x y,Q,a,σ=>L (.rangeFunc f ps x y) Q a σ
 | .exit id,Q,a,σ=>Q (.exit id) a σ
 | .ret,Q,a,σ=>Q .ret a σ
 | _,_,_,_=>false
end Go.V
