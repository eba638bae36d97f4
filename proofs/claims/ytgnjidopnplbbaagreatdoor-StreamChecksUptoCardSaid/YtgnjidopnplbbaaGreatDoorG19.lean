import Derived.Test.YtgnjidopnplbbaaGreatDoorG12
import Derived.Test.YtgnjidopnplbbaaGreatDoorG8
import Derived.Test.YtgnjidopnplbbaaGreatDoorG13
import Derived.Test.YtgnjidopnplbbaaGreatDoorG15
/- Mergers: what they do, in plain terms. -/
set_option linter.unusedSimpArgs false
set_option linter.unusedVariables false
namespace Go.V

structure RI where
 q:List T
 op:Bool
 fr:Bool
 bh:Int
def RI.no:RI:=⟨[],false,false,-1⟩
def RI.dead (x:RI):Bool:=!x.op && x.q.isEmpty

structure RM where
 I:List RI
 turn:List Nat
 work:Nat
 puts:Nat

def RM.at (m:RM) (i:Nat):RI:=m.I.getD i RI.no

def RM.new (n:Nat):RM:=⟨List.replicate n ⟨[],true,true,-1⟩,[],n,0⟩

def freshAt (m:RM) (i:Nat):RM :=
 if !(m.at i).fr && ((m.at (m.at i).bh.toNat).fr && (m.at (m.at i).bh.toNat).dead) then
  { m with I:=m.I.set i { m.at i with fr:=true },turn:=if (m.at i).q.isEmpty then m.turn else m.turn ++ [i] }
 else m
def RM.fresh (m:RM):RM:=(List.range m.I.length).foldl freshAt m

def RM.opened (m:RM) (i:Int):Option Nat:=if 0 <= i /\ i < m.I.length /\ (m.at i.toNat).op = true then some i.toNat else none

theorem getD_set (l:List RI) (i j:Nat) (x d:RI):(l.set i x).getD j d = if i = j /\ j < l.length then x else l.getD j d:=by
 simp only [List.getD,List.getElem?_set]
 by_cases h:i = j
 ·subst h
  by_cases h2:i < l.length
  ·simp [h2]
  ·simp [h2]
 ·simp [h]

end Go.V
/- Mergers as they lie in a state. -/
namespace Go.V

inductive MRole where
 | m | ins | turn | todo | now
 | inp (k:Nat) | beh (k:Nat) | itm (k:Nat)
 | x (i:Nat)
 deriving DecidableEq
abbrev MH:=Heap MRole

structure OC where
 cs:List AV
 e:Nat
 sz:Nat
 g:Bool
def OC.o (x:OC):AObj:=.cells x.cs x.e x.sz x.g
structure OE where
 cs:List AV
 g:Bool
structure RS where
 id:Nat
 n:Nat
def RS.v (x:RS):AV:=.rslice x.id 0 x.n

inductive SlAt (c:MH) (r:MRole) (e sz:Nat):AV -> List AV -> Prop where
 | nil:SlAt c r e sz .nilslice []
 | row (id n:Nat) (g:Bool) (cs:List AV) (h:c r = some (id,.cells cs e sz g)) (hl:cs.length = n * sz):SlAt c r e sz (.rslice id 0 n) cs

theorem SlAt.congr {c c':MH} {r:MRole} {e sz:Nat} {v:AV} {cs:List AV} (h:SlAt c r e sz v cs) (hc:c' r = c r):SlAt c' r e sz v cs:=by
 cases h with
 | nil => exact .nil
 | row id n g cs h hl => exact .row id n g cs (hc.trans h) hl

def QuAt (c:MH) (r:MRole) (e sz:Nat) (v:AV) (fr:Nat) (n:Nat) (cs:List AV):Prop:=∃ pre,SlAt c r e sz v (pre ++ cs) /\ pre.length = fr * sz /\ cs.length = n * sz /\ fr <= 32 + n
theorem QuAt.congr {c c':MH} {r:MRole} {e sz fr n:Nat} {v:AV} {cs:List AV} (h:QuAt c r e sz v fr n cs) (hc:c' r = c r):QuAt c' r e sz v fr n cs:=by
 obtain ⟨pre,h1,h2⟩:=h
 exact ⟨pre,h1.congr hc,h2⟩

structure PI where
 op:Bool
 fr:Bool
 beh:List Nat
 q:List T
def PI.no:PI:=⟨false,false,[],[]⟩
structure PM where
 I:List PI
 turn:List Nat
 came:Nat
 gone:Nat
 work:Nat
 count:Nat
def PM.at (p:PM) (k:Nat):PI:=p.I.getD k PI.no

def intsV (l:List Nat):List AV:=l.map fun (i:Nat) => AV.int .i64 (i:Int)
def ptrsV (l:List Nat):List AV:=l.map fun (i:Nat) => AV.ptr i 0

structure InpAt (c:MH) (k id:Nat) (x:PI):Prop where
 ex:∃ (bv qv:AV) (qf:Nat),c (.inp k) = some (id,.cells [.bool x.op,.bool x.fr,bv,qv,.int .i64 (qf:Int)] 159 5 false) /\ SlAt c (.beh k) 3 1 bv (intsV x.beh) /\ QuAt c (.itm k) 37 4 qv qf x.q.length (flat (tcellL x.q))
theorem InpAt.congr {c c':MH} {k id:Nat} {x:PI} (h:InpAt c k id x) (h1:c' (.inp k) = c (.inp k)) (h2:c' (.beh k) = c (.beh k)) (h3:c' (.itm k) = c (.itm k)):InpAt c' k id x:=by
 obtain ⟨bv,qv,qf,a,b,d⟩:=h.ex
 exact ⟨bv,qv,qf,h1.trans a,b.congr h2,d.congr h3⟩

structure ML where
 M:Nat
 iv:AV
 tv:AV
 tf:Nat
 ids:List Nat
def mcells (L:ML) (p:PM):List AV:=[L.iv,L.tv,.int .i64 (L.tf:Int),.int .i64 (p.came:Int),.int .i64 (p.gone:Int),.int .i64 (p.work:Int),.int .i64 (p.count:Int)]
structure Rep (c:MH) (L:ML) (p:PM):Prop where
 m:c .m = some (L.M,.cells (mcells L p) 153 7 false)
 ins:SlAt c .ins 155 1 L.iv (ptrsV L.ids)
 turn:QuAt c .turn 3 1 L.tv L.tf p.turn.length (intsV p.turn)
 len:L.ids.length = p.I.length
 inp:∀ k (h:k < L.ids.length),InpAt c k L.ids[k] (p.at k)

def Same (c c':MH) (l:List MRole):Prop:=∀ q,q ∉ l -> c' q = c q
theorem Same.refl (c:MH) (l:List MRole):Same c c l:=fun _ _ => rfl
theorem Same.trans {c c' c'':MH} {l:List MRole} (h:Same c c' l) (k:Same c' c'' l):Same c c'' l:=fun q hq => (k q hq).trans (h q hq)
theorem Same.wide {c c':MH} {l l':List MRole} (h:Same c c' l) (hl:∀ q ∈ l,q ∈ l'):Same c c' l':=fun q hq => h q fun hm => hq (hl q hm)
theorem Same.hup {c:MH} {r:MRole} {x:Option (Nat × AObj)} {l:List MRole} (h:r ∈ l):Same c (hup c r x) l:=fun q hq => hup_ne fun e => hq (by rw [e]; exact h)

theorem SlAt.len {c:MH} {r:MRole} {e sz:Nat} {v:AV} {cs:List AV} (h:SlAt c r e sz v cs):∃ n,cs.length = n * sz:=by
 cases h with
 | nil => exact ⟨0,by simp⟩
 | row id n g cs h hl => exact ⟨n,hl⟩
theorem intsV_len (l:List Nat):(intsV l).length = l.length:=List.length_map _
theorem ptrsV_len (l:List Nat):(ptrsV l).length = l.length:=List.length_map _
theorem intsV_get {l:List Nat} {i:Nat} (h:i < l.length):(intsV l).getD i .undef = .int .i64 (l[i]:Int):=by
 unfold intsV; rw [List.getD,List.getElem?_map,List.getElem?_eq_getElem h]; rfl
theorem ptrsV_get {l:List Nat} {i:Nat} (h:i < l.length):(ptrsV l).getD i .undef = .ptr l[i] 0:=by
 unfold ptrsV; rw [List.getD,List.getElem?_map,List.getElem?_eq_getElem h]; rfl
theorem intsV_append (l m:List Nat):intsV (l ++ m) = intsV l ++ intsV m:=List.map_append
end Go.V
/- Conditions: the queues of a merger. -/
set_option maxRecDepth 1000000
namespace Go.V
open Go Go.Proofs

def hRS:Hint:=Hint.ofAs OC.o RS.v
def hNil:Hint:=Hint.ofAs OC.o (fun _:Unit => AV.nilslice)
def hInt:Hint:=Hint.ofAs OC.o (fun n:Nat => AV.int .i64 (n:Int))
def hEl (e sz:Nat):Hint:=Hint.of (fun x:OE => AObj.cells x.cs e sz x.g)
def hElInt:Hint:=Hint.ofAs (fun x:OE => AObj.cells x.cs 3 1 x.g) (fun n:Nat => AV.int .i64 (n:Int))
def hOb:Hint:=Hint.of OC.o
def hAt (l:List (Nat × Nat × Hint)):FnHint:=fun id i => match l.find? (fun x => Nat.beq x.1 id && Nat.beq x.2.1 i) with
 | some x => x.2.2
 | none => Hint.no
def N89n:FnHint:=hAt [(0,4,hNil),(0,7,Hint.s),(0,10,hOb)]
def N89r:FnHint:=hAt [(0,4,hRS),(0,7,hEl 3 1),(0,10,hOb)]
theorem vc89n (B:Nat) (w0:World) (G:Nat -> AV) (σ:State) (id off:Nat) (x:Int) (Q:AV -> State -> Prop):(bodyC (EV B w0 G) (H0 (EV B w0 G)) (fun _ _ _ _ => False) annA N89n 89 [.ptr id off,.int .i64 x] σ Q) =
 ((∃ a0:OC,(((State.objs σ (id)) = (AObj.cells (OC.cs a0) (OC.e a0) (OC.sz a0) (OC.g a0)))/\
 (((((off) + 0):Nat) < (List.length (OC.cs a0)))/\
 (∃ x1:Unit,(((List.getD (OC.cs a0) (off + 0) AV.undef) = AV.nilslice)/\
 ((((8:Nat) <= 140737488355328)/\
 ((1:Nat) <= 4611686018427387904))/\
 (∃ a2:OC,(((State.objs (State.new σ (AObj.cells [(AV.int .i64 (x))] 3 1 true)) (id)) = (AObj.cells (OC.cs a2) (OC.e a2) (OC.sz a2) (OC.g a2)))/\
 ((((((off) + 0) + 1):Nat) <= (List.length (OC.cs a2)))/\
 (Q (AV.tuple []) (State.set (State.new σ (AObj.cells [(AV.int .i64 (x))] 3 1 true)) (id) (AObj.cells (asplice (OC.cs a2) ((off) + 0) [(AV.rslice (State.next σ) 0 1)]) (OC.e a2) (OC.sz a2) (OC.g a2)))))))))))))):=by kernel_rfl
theorem vc89r (B:Nat) (w0:World) (G:Nat -> AV) (σ:State) (id off:Nat) (x:Int) (Q:AV -> State -> Prop):(bodyC (EV B w0 G) (H0 (EV B w0 G)) (fun _ _ _ _ => False) annA N89r 89 [.ptr id off,.int .i64 x] σ Q) =
 ((∃ a0:OC,(((State.objs σ (id)) = (AObj.cells (OC.cs a0) (OC.e a0) (OC.sz a0) (OC.g a0)))/\
 (((((off) + 0):Nat) < (List.length (OC.cs a0)))/\
 (∃ x1:RS,(((List.getD (OC.cs a0) (off + 0) AV.undef) = (AV.rslice (RS.id x1) 0 (RS.n x1)))/\
 (∃ a2:OE,(((State.objs σ (RS.id x1)) = (AObj.cells (OE.cs a2) 3 1 (OE.g a2)))/\
 ((((0:Nat) = 0)/\
 (((((((RS.n x1) + 1) * 8):Nat) <= 140737488355328)/\
 ((((RS.n x1) + 1):Nat) <= 4611686018427387904))/\
 ((((RS.n x1) * 1):Nat) <= (List.length (OE.cs a2)))))/\
 (∃ a3:OC,(((State.objs (State.new (State.set σ (RS.id x1) AObj.dead) (AObj.cells ((List.take ((RS.n x1) * 1) (OE.cs a2)) ++ [(AV.int .i64 (x))]) 3 1 true)) (id)) = (AObj.cells (OC.cs a3) (OC.e a3) (OC.sz a3) (OC.g a3)))/\
 ((((((off) + 0) + 1):Nat) <= (List.length (OC.cs a3)))/\
 (Q (AV.tuple []) (State.set (State.new (State.set σ (RS.id x1) AObj.dead) (AObj.cells ((List.take ((RS.n x1) * 1) (OE.cs a2)) ++ [(AV.int .i64 (x))]) 3 1 true)) (id) (AObj.cells (asplice (OC.cs a3) ((off) + 0) [(AV.rslice (State.next σ) 0 ((RS.n x1) + 1))]) (OC.e a3) (OC.sz a3) (OC.g a3)))))))))))))))):=by kernel_rfl
def N88n:FnHint:=hAt [(1,3,hNil),(1,8,hInt)]
def N88r:FnHint:=hAt [(1,3,hRS),(1,8,hInt)]
theorem vc88n (B:Nat) (w0:World) (G:Nat -> AV) (σ:State) (id off:Nat) (Q:AV -> State -> Prop):(bodyC (EV B w0 G) (H0 (EV B w0 G)) (fun _ _ _ _ => False) annA N88n 88 [.ptr id off] σ Q) =
 ((∃ a0:OC,(((State.objs σ (id)) = (AObj.cells (OC.cs a0) (OC.e a0) (OC.sz a0) (OC.g a0)))/\
 (((((off) + 0):Nat) < (List.length (OC.cs a0)))/\
 (∃ x1:Unit,(((List.getD (OC.cs a0) (off + 0) AV.undef) = AV.nilslice)/\
 (∃ a2:OC,(((State.objs σ (id)) = (AObj.cells (OC.cs a2) (OC.e a2) (OC.sz a2) (OC.g a2)))/\
 (((((off) + 1):Nat) < (List.length (OC.cs a2)))/\
 (∃ x3:Nat,(((List.getD (OC.cs a2) (off + 1) AV.undef) = (AV.int .i64 ((x3:Nat):Int)))/\
 (Q (AV.int .i64 (IntKind.wrap .i64 (0 - ((x3:Nat):Int)))) σ)))))))))))):=by kernel_rfl
theorem vc88r (B:Nat) (w0:World) (G:Nat -> AV) (σ:State) (id off:Nat) (Q:AV -> State -> Prop):(bodyC (EV B w0 G) (H0 (EV B w0 G)) (fun _ _ _ _ => False) annA N88r 88 [.ptr id off] σ Q) =
 ((∃ a0:OC,(((State.objs σ (id)) = (AObj.cells (OC.cs a0) (OC.e a0) (OC.sz a0) (OC.g a0)))/\
 (((((off) + 0):Nat) < (List.length (OC.cs a0)))/\
 (∃ x1:RS,(((List.getD (OC.cs a0) (off + 0) AV.undef) = (AV.rslice (RS.id x1) 0 (RS.n x1)))/\
 (∃ a2:OC,(((State.objs σ (id)) = (AObj.cells (OC.cs a2) (OC.e a2) (OC.sz a2) (OC.g a2)))/\
 (((((off) + 1):Nat) < (List.length (OC.cs a2)))/\
 (∃ x3:Nat,(((List.getD (OC.cs a2) (off + 1) AV.undef) = (AV.int .i64 ((x3:Nat):Int)))/\
 (Q (AV.int .i64 (IntKind.wrap .i64 (((RS.n x1:Nat):Int) - ((x3:Nat):Int)))) σ)))))))))))):=by kernel_rfl
end Go.V
/- Reading and writing objects that are told: for simp. -/
set_option maxRecDepth 100000
namespace Go.V
open Go Go.Proofs

theorem ex_OC {p:OC -> Prop}:(∃ x:OC,p x) ↔ ∃ cs e sz g,p ⟨cs,e,sz,g⟩:=⟨fun ⟨⟨a,b,c,d⟩,h⟩ => ⟨a,b,c,d,h⟩,fun ⟨a,b,c,d,h⟩ => ⟨⟨a,b,c,d⟩,h⟩⟩
theorem ex_OE {p:OE -> Prop}:(∃ x:OE,p x) ↔ ∃ cs g,p ⟨cs,g⟩:=⟨fun ⟨⟨a,b⟩,h⟩ => ⟨a,b,h⟩,fun ⟨a,b,h⟩ => ⟨⟨a,b⟩,h⟩⟩
theorem ex_RS {p:RS -> Prop}:(∃ x:RS,p x) ↔ ∃ id n,p ⟨id,n⟩:=⟨fun ⟨⟨a,b⟩,h⟩ => ⟨a,b,h⟩,fun ⟨a,b,h⟩ => ⟨⟨a,b⟩,h⟩⟩
theorem objs_set {σ:State} {i j:Nat} {o:AObj}:(σ.set i o).objs j = if j = i then o else σ.objs j:=rfl
theorem objs_new {σ:State} {j:Nat} {o:AObj}:(σ.new o).objs j = if j = σ.next then o else σ.objs j:=rfl
theorem next_set {σ:State} {i:Nat} {o:AObj}:(σ.set i o).next = σ.next:=rfl
theorem next_new {σ:State} {o:AObj}:(σ.new o).next = σ.next + 1:=rfl
theorem getD_mid {A B:List AV} {x d:AV}:(A ++ x :: B).getD A.length d = x:=by simp [List.getD]
theorem getD_mid1 {A B:List AV} {x y d:AV}:(A ++ x :: y :: B).getD (A.length + 1) d = y:=by simp [List.getD]
theorem asplice_mid {A B:List AV} {x y:AV}:asplice (A ++ x :: B) A.length [y] = A ++ y :: B:=by
 unfold asplice
 rw [List.take_left' rfl,show A.length + [y].length = (A ++ [x]).length by simp,show A ++ x :: B = (A ++ [x]) ++ B by simp,List.drop_left' rfl]
 simp
theorem int_inj {a b:Nat}:(AV.int .i64 (a:Int) = AV.int .i64 (b:Int)) ↔ a = b:=by
 constructor
 ·intro h; cases h; rfl
 ·intro h; rw [h]

theorem lt_mid {A B:List AV} {x:AV}:(A.length < (A ++ x :: B).length) ↔ True:=by simp
theorem lt_mid1 {A B:List AV} {x y:AV}:(A.length + 1 < (A ++ x :: y :: B).length) ↔ True:=by simp
theorem le_mid {A B:List AV} {x:AV}:(A.length + 1 <= (A ++ x :: B).length) ↔ True:=by simp
end Go.V
/- Queues of a merger: contracts. -/
set_option linter.unusedSectionVars false
namespace Go.V
open Go Go.Proofs

theorem SlAt.inv {c:MH} {r:MRole} {e sz:Nat} {v:AV} {cs:List AV} (h:SlAt c r e sz v cs):(v = .nilslice /\ cs = []) \/ ∃ id n g,v = .rslice id 0 n /\ c r = some (id,.cells cs e sz g) /\ cs.length = n * sz:=by
 cases h with
 | nil => exact .inl ⟨rfl,rfl⟩
 | row id n g cs h hl => exact .inr ⟨id,n,g,rfl,h,hl⟩
theorem At.ne {R:Type} {c:Heap R} {σ:State} {r s:R} {i j:Nat} {o p:AObj} (h:At c σ) (hr:c r = some (i,o)) (hs:c s = some (j,p)) (hrs:r ≠ s):i ≠ j:=fun e => hrs (h.inj r s i o p hr (by rw [e]; exact hs))

structure QP (c:MH) (r s:MRole) (id:Nat) (A Bs:List AV) (oe osz:Nat) (og:Bool) (e sz:Nat) (lv:AV) (fr n:Nat) (vals:List AV):Prop where
 rs:r ≠ s
 ob:c r = some (id,.cells (A ++ lv :: .int .i64 (fr:Int) :: Bs) oe osz og)
 q:QuAt c s e sz lv fr n vals

def C90q (e sz:Nat):Contract:=fun args σ K => ∃ (c:MH) (r s:MRole) (id:Nat) (A Bs:List AV) (oe osz:Nat) (og:Bool) (lv:AV) (fr n:Nat) (vals:List AV) (off:Nat),args = [.ptr id off] /\ (At c σ /\ QP c r s id A Bs oe osz og e sz lv fr n vals /\ off = A.length /\ n <= 100000) /\ K (.int .i64 (n:Int)) σ
def C89q (e sz:Nat) {α:Type} (f:α -> AV):Contract:=fun args σ K => ∃ (c:MH) (r s:MRole) (id:Nat) (A Bs:List AV) (oe osz:Nat) (og:Bool) (lv:AV) (fr n:Nat) (vals:List AV) (off:Nat) (x:α),args = [.ptr id off,f x] /\ (At c σ /\ QP c r s id A Bs oe osz og e sz lv fr n vals /\ off = A.length /\ n <= 100000) /\
 ∀ (lv':AV) (c':MH) (σ':State),(At c' σ' /\ QP c' r s id A Bs oe osz og e sz lv' fr (n + 1) (vals ++ (f x).cells) /\ Same c c' [r,s]) -> K (.tuple []) σ'
section
variable {B:Nat} {w0:World} {G:Nat -> AV}

theorem c88_ok:ContractOk (EV B w0 G) 88 (C90q 37 4):=by
 rintro args σ Q ⟨c,r,s,id,A,Bs,oe,osz,og,lv,fr,n,vals,off,rfl,⟨hA,hq,rfl,hn⟩,hQ⟩
 have hid:=hA.obj hq.ob
 obtain ⟨pre,hsl,hpl,hvl,hfr⟩:=hq.q
 rcases hsl.inv with ⟨rfl,hnil⟩ | ⟨tid,m,g,rfl,hs,hml⟩
 ·obtain ⟨h1,h2⟩:=List.append_eq_nil_iff.1 hnil
  subst h1; subst h2
  have hfr0:fr = 0:=by simp at hpl; omega
  have hn0:n = 0:=by simp at hvl; omega
  subst hfr0; subst hn0
  refine bodyC_ok (EV_mixed B w0 G) (hnd_ok (EV_mixed B w0 G) contracts_nil) (fun l hl _ Q a σ k => k.elim) ((vc88n B w0 G σ id A.length _).mpr ?_)
  simp only [ex_OC,ex_OE,ex_RS,hid,Nat.add_zero,AObj.cells.injEq,getD_mid,getD_mid1,int_inj,lt_mid,lt_mid1,eq_self,true_and,and_true,exists_eq_left',exists_eq_left,exists_and_left,exists_and_right,and_assoc,exists_eq',exists_const]
  exact hQ
 ·have w:IntKind.wrap .i64 ((m:Int) - (fr:Int)) = (n:Int):=by
   rw [List.length_append,hpl,hvl] at hml
   rw [wr_small (by omega) (by omega)]; omega
  refine bodyC_ok (EV_mixed B w0 G) (hnd_ok (EV_mixed B w0 G) contracts_nil) (fun l hl _ Q a σ k => k.elim) ((vc88r B w0 G σ id A.length _).mpr ?_)
  simp only [ex_OC,ex_OE,ex_RS,hid,Nat.add_zero,AObj.cells.injEq,AV.rslice.injEq,getD_mid,getD_mid1,int_inj,lt_mid,lt_mid1,w,eq_self,true_and,and_true,exists_eq_left',exists_eq_left,exists_and_left,exists_and_right,and_assoc,exists_eq',exists_const]
  exact hQ

theorem c89_ok:ContractOk (EV B w0 G) 89 (C89q 3 1 fun x:Int => .int .i64 x):=by
 rintro args σ Q ⟨c,r,s,id,A,Bs,oe,osz,og,lv,fr,n,vals,off,x,rfl,⟨hA,hq,rfl,hn⟩,hQ⟩
 have hid:=hA.obj hq.ob
 have hlt:=hA.lt hq.ob
 have hne:id ≠ σ.next:=by omega
 obtain ⟨pre,hsl,hpl,hvl,hfr⟩:=hq.q
 rcases hsl.inv with ⟨rfl,hnil⟩ | ⟨tid,m,g,rfl,hs,hml⟩
 ·obtain ⟨h1,h2⟩:=List.append_eq_nil_iff.1 hnil
  subst h1; subst h2
  have hfr0:fr = 0:=by simp at hpl; omega
  have hn0:n = 0:=by simp at hvl; omega
  subst hfr0; subst hn0
  refine bodyC_ok (EV_mixed B w0 G) (hnd_ok (EV_mixed B w0 G) contracts_nil) (fun l hl _ Q a σ k => k.elim) ((vc89n B w0 G σ id A.length x _).mpr ?_)
  simp only [ex_OC,ex_OE,ex_RS,objs_set,objs_new,next_set,next_new,hid,hne,if_true,if_false,Nat.add_zero,AObj.cells.injEq,getD_mid,getD_mid1,asplice_mid,int_inj,lt_mid,lt_mid1,le_mid,eq_self,true_and,and_true,exists_eq_left',exists_eq_left,exists_and_left,exists_and_right,and_assoc,exists_eq',exists_const]
  refine ⟨by omega,by omega,hQ (.rslice σ.next 0 1) _ _ ⟨(hA.new s _).set ((hup_ne hq.rs).trans hq.ob) _,⟨hq.rs,hup_self,[],.row σ.next 1 true [.int .i64 x] ((hup_ne hq.rs.symm).trans hup_self) rfl,rfl,rfl,by omega⟩,(Same.hup (by simp)).trans (Same.hup (by simp))⟩⟩
 ·have hid':=hA.obj hs
  have hlt':=hA.lt hs
  have hne1:id ≠ tid:=hA.ne hq.ob hs hq.rs
  have hml':=hml
  rw [List.length_append,hpl,hvl] at hml'
  have htake:List.take (m * 1) (pre ++ vals) = pre ++ vals:=List.take_of_length_le (by omega)
  refine bodyC_ok (EV_mixed B w0 G) (hnd_ok (EV_mixed B w0 G) contracts_nil) (fun l hl _ Q a σ k => k.elim) ((vc89r B w0 G σ id A.length x _).mpr ?_)
  simp only [ex_OC,ex_OE,ex_RS,objs_set,objs_new,next_set,next_new,hid,hid',hne,hne1,if_true,if_false,Nat.add_zero,AObj.cells.injEq,AV.rslice.injEq,getD_mid,getD_mid1,asplice_mid,int_inj,lt_mid,lt_mid1,le_mid,htake,eq_self,true_and,and_true,exists_eq_left',exists_eq_left,exists_and_left,exists_and_right,and_assoc,exists_eq',exists_const]
  refine ⟨by omega,by omega,by omega,hQ (.rslice σ.next 0 (m + 1)) _ _ ⟨(hA.grow hs _).set ((hup_ne hq.rs).trans hq.ob) _,⟨hq.rs,hup_self,pre,?_,hpl,by rw [List.length_append,hvl]; show n * 1 + 1 = (n + 1) * 1; omega,by omega⟩,(Same.hup (by simp)).trans (Same.hup (by simp))⟩⟩
  rw [<-List.append_assoc]
  exact .row σ.next (m + 1) true _ ((hup_ne hq.rs.symm).trans hup_self) (by rw [List.length_append,hml]; show m * 1 + 1 = (m + 1) * 1; omega)

end
end Go.V
/- Conditions: the small methods of a merger. -/
namespace Go.V
open Go Go.Proofs

structure OM where
 iv:AV
 tv:AV
 tf:AV
 came:Nat
 gone:Nat
 work:Nat
 count:Nat
def OM.o (x:OM):AObj:=.cells [x.iv,x.tv,x.tf,.int .i64 (x.came:Int),.int .i64 (x.gone:Int),.int .i64 (x.work:Int),.int .i64 (x.count:Int)] 153 7 false
structure OI where
 op:Bool
 fr:Bool
 bv:AV
 qv:AV
 qf:AV
def OI.o (x:OI):AObj:=.cells [.bool x.op,.bool x.fr,x.bv,x.qv,x.qf] 159 5 false
def hM:Hint:=Hint.of OM.o
def hMR:Hint:=Hint.ofAs OM.o RS.v
def hI:Hint:=Hint.of OI.o
def hPtr:Hint:=Hint.ofAs (fun x:OE => AObj.cells x.cs 155 1 x.g) (fun n:Nat => AV.ptr n 0)

end Go.V
/- Small methods of a merger: contracts. -/
namespace Go.V
open Go Go.Proofs

theorem ex_OM {p:OM -> Prop}:(∃ x:OM,p x) ↔ ∃ iv tv tf a b d e,p ⟨iv,tv,tf,a,b,d,e⟩:=⟨fun ⟨⟨a,b,c,d,e,f,g⟩,h⟩ => ⟨a,b,c,d,e,f,g,h⟩,fun ⟨a,b,c,d,e,f,g,h⟩ => ⟨⟨a,b,c,d,e,f,g⟩,h⟩⟩
theorem ex_OI {p:OI -> Prop}:(∃ x:OI,p x) ↔ ∃ op fr bv qv qf,p ⟨op,fr,bv,qv,qf⟩:=⟨fun ⟨⟨a,b,c,d,e⟩,h⟩ => ⟨a,b,c,d,e,h⟩,fun ⟨a,b,c,d,e,h⟩ => ⟨⟨a,b,c,d,e⟩,h⟩⟩
theorem nat_inj {a b:Nat}:((a:Int) = (b:Int)) ↔ a = b:=Int.ofNat_inj

def PM.opened (p:PM) (i:Int):Option Nat:=if 0 <= i /\ i < p.I.length /\ (p.at i.toNat).op = true then some i.toNat else none
def PM.setI (p:PM) (k:Nat) (x:PI):PM:={ p with I:=p.I.set k x }
theorem PM.setI_at {p:PM} {k j:Nat} {x:PI} (hk:k < p.I.length):(p.setI k x).at j = if j = k then x else p.at j:=by
 unfold PM.setI PM.at
 simp only [List.getD,List.getElem?_set]
 by_cases h:k = j
 ·subst h; simp [hk]
 ·rw [if_neg h,if_neg fun e => h e.symm]

theorem Rep.obM {c:MH} {L:ML} {p:PM} {σ:State} (h:Rep c L p) (hA:At c σ):σ.objs L.M = .cells [L.iv,L.tv,.int .i64 (L.tf:Int),.int .i64 (p.came:Int),.int .i64 (p.gone:Int),.int .i64 (p.work:Int),.int .i64 (p.count:Int)] 153 7 false:=hA.obj h.m

theorem Rep.upd {c c':MH} {L L':ML} {p p':PM} (h:Rep c L p) (hm:c' .m = some (L'.M,.cells (mcells L' p') 153 7 false)) (hids:L'.ids = L.ids) (hiv:L'.iv = L.iv) (hins:c' .ins = c .ins)
  (hturn:QuAt c' .turn 3 1 L'.tv L'.tf p'.turn.length (intsV p'.turn)) (hlen:p'.I.length = p.I.length) (hinp:∀ k (hk:k < L.ids.length),InpAt c' k L.ids[k] (p'.at k)):Rep c' L' p' where
 m:=hm
 ins:=by rw [hids,hiv]; exact h.ins.congr hins
 turn:=hturn
 len:=by rw [hids,hlen]; exact h.len
 inp:=by rw [hids]; exact hinp

def MRole.own:MRole -> Bool
 | .x _ => false
 | _ => true
def Frame' (c c':MH):Prop:=∀ i,c' (.x i) = c (.x i)
theorem Frame'.refl (c:MH):Frame' c c:=fun _ => rfl
theorem Frame'.trans {c c' c'':MH} (h:Frame' c c') (k:Frame' c' c''):Frame' c c'':=fun i => (k i).trans (h i)
theorem Same.frame {c c':MH} {l:List MRole} (h:Same c c' l) (hl:∀ q ∈ l,q.own = true):Frame' c c':=fun i => h _ fun hm => by have:=hl _ hm; cases this

theorem ptrsV_append (l m:List Nat):ptrsV (l ++ m) = ptrsV l ++ ptrsV m:=List.map_append

section
variable {B:Nat} {w0:World} {G:Nat -> AV}

end
end Go.V
