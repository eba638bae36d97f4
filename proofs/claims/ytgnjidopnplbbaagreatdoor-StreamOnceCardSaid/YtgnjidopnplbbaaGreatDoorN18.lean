import Derived.Test.YtgnjidopnplbbaaGreatDoorN12
import Derived.Test.YtgnjidopnplbbaaGreatDoorN8
import Derived.Test.YtgnjidopnplbbaaGreatDoorN13
import Derived.Test.YtgnjidopnplbbaaGreatDoorN15
/- Mergers: what they do, in plain terms. -/
set_option linter.unusedSimpArgs false
set_option linter.unusedVariables false
namespace Go.V

structure RI where
 q:List T
 op:Bool
 fr:Bool
 bh:Int
def RI.no:RI:=⟨[],false,false,-1⟩
def RI.dead (x:RI):Bool:=!x.op && x.q.isEmpty

structure RM where
 I:List RI
 turn:List Nat
 work:Nat
 puts:Nat

def RM.at (m:RM) (i:Nat):RI:=m.I.getD i RI.no

def RM.new (n:Nat):RM:=⟨List.replicate n ⟨[],true,true,-1⟩,[],n,0⟩

def freshAt (m:RM) (i:Nat):RM :=
 if !(m.at i).fr && ((m.at (m.at i).bh.toNat).fr && (m.at (m.at i).bh.toNat).dead) then
  { m with I:=m.I.set i { m.at i with fr:=true },turn:=if (m.at i).q.isEmpty then m.turn else m.turn ++ [i] }
 else m
def RM.fresh (m:RM):RM:=(List.range m.I.length).foldl freshAt m

def RM.opened (m:RM) (i:Int):Option Nat:=if 0 <= i /\ i < m.I.length /\ (m.at i.toNat).op = true then some i.toNat else none

def RM.Ranked (m:RM):Prop:=∀ i,i < m.I.length -> (m.at i).fr = false -> 0 <= (m.at i).bh /\ (m.at i).bh < i

theorem getD_set (l:List RI) (i j:Nat) (x d:RI):(l.set i x).getD j d = if i = j /\ j < l.length then x else l.getD j d:=by
 simp only [List.getD,List.getElem?_set]
 by_cases h:i = j
 ·subst h
  by_cases h2:i < l.length
  ·simp [h2]
  ·simp [h2]
 ·simp [h]

theorem at_ge {m:RM} {i:Nat} (h:m.I.length <= i):m.at i = RI.no:=by
 unfold RM.at; rw [List.getD,List.getElem?_eq_none h]; rfl

theorem fresh_spec {m:RM} (hr:m.Ranked):∃ f:Nat -> Bool,(∀ i,i < m.I.length -> f i = ((m.at i).fr || (f (m.at i).bh.toNat && (m.at (m.at i).bh.toNat).dead))) /\
  (m.fresh).I.length = m.I.length /\ (∀ i,i < m.I.length -> m.fresh.at i = { m.at i with fr:=f i }) /\
  m.fresh.turn = m.turn ++ (List.range m.I.length).filter (fun i => !(m.at i).fr && (f i && !(m.at i).q.isEmpty)) /\ m.fresh.work = m.work /\ m.fresh.puts = m.puts:=by
 have key:∀ j,j <= m.I.length -> ∃ f:Nat -> Bool,(∀ i,i < j -> f i = ((m.at i).fr || (f (m.at i).bh.toNat && (m.at (m.at i).bh.toNat).dead))) /\
   ((List.range j).foldl freshAt m).I.length = m.I.length /\ (∀ i,i < j -> ((List.range j).foldl freshAt m).at i = { m.at i with fr:=f i }) /\ (∀ i,j <= i -> ((List.range j).foldl freshAt m).at i = m.at i) /\
   ((List.range j).foldl freshAt m).turn = m.turn ++ (List.range j).filter (fun i => !(m.at i).fr && (f i && !(m.at i).q.isEmpty)) /\ ((List.range j).foldl freshAt m).work = m.work /\ ((List.range j).foldl freshAt m).puts = m.puts:=by
  intro j
  induction j with
  | zero => exact fun _ => ⟨fun _ => false,fun i h => by omega,rfl,fun i h => by omega,fun i _ => rfl,by simp,rfl,rfl⟩
  | succ j ih =>
   intro hj
   obtain ⟨f,h1,h2,h3,h4,h5,h6,h7⟩:=ih (by omega)
   rw [List.range_succ,List.foldl_append]
   simp only [List.foldl_cons,List.foldl_nil]
   generalize hM:(List.range j).foldl freshAt m = M at *
   have hself:M.at j = m.at j:=h4 j (Nat.le_refl _)
   -- the value at j
   refine ⟨fun i => if i = j then ((m.at j).fr || (f (m.at j).bh.toNat && (m.at (m.at j).bh.toNat).dead)) else f i,fun i hi => ?_,?_⟩
   ·by_cases hij:i = j
    ·subst hij
     simp only [if_true]
     cases hf:(m.at i).fr with
     | true => rfl
     | false =>
      have:=hr i (by omega) hf
      rw [if_neg (by omega)]
    ·dsimp only
     rw [if_neg hij,h1 i (by omega)]
     cases hf:(m.at i).fr with
     | true => rfl
     | false =>
      have:=hr i (by omega) hf
      rw [if_neg (by omega)]
   ·have hb:(m.at j).fr = false -> M.at (m.at j).bh.toNat = { m.at (m.at j).bh.toNat with fr:=f (m.at j).bh.toNat }:=fun hf => by
     have:=hr j (by omega) hf
     exact h3 _ (by omega)
    have hdead:∀ (x:RI) (b:Bool),RI.dead { x with fr:=b } = x.dead:=fun x b => rfl
    unfold freshAt
    rw [hself]
    cases hf:(m.at j).fr with
    | true =>
     simp only [Bool.not_true,Bool.false_and,Bool.false_eq_true,if_false,Bool.true_or]
     refine ⟨h2,fun i hi => ?_,fun i hi => h4 i (by omega),?_,h6,h7⟩
     ·by_cases hij:i = j
      ·subst hij; rw [if_pos rfl,hself]; conv => lhs; rw [show m.at i = { m.at i with fr:=(m.at i).fr } from rfl,hf]
      ·rw [if_neg hij]; exact h3 i (by omega)
     ·rw [List.filter_append,h5]
      have:List.filter (fun i => !(m.at i).fr && ((if i = j then true else f i) && !(m.at i).q.isEmpty)) (List.range j) = List.filter (fun i => !(m.at i).fr && (f i && !(m.at i).q.isEmpty)) (List.range j) :=
       List.filter_congr fun i hi => by rw [if_neg (by have:=List.mem_range.1 hi; omega)]
      rw [this]
      simp [hf]
    | false =>
     rw [hb hf]
     simp only [Bool.not_false,Bool.true_and,Bool.false_or,hdead]
     have hcong:∀ v:Bool,List.filter (fun i => !(m.at i).fr && ((if i = j then v else f i) && !(m.at i).q.isEmpty)) (List.range j) = List.filter (fun i => !(m.at i).fr && (f i && !(m.at i).q.isEmpty)) (List.range j):=fun v =>
      List.filter_congr fun i hi => by rw [if_neg (by have:=List.mem_range.1 hi; omega)]
     cases hc:(f (m.at j).bh.toNat && (m.at (m.at j).bh.toNat).dead) with
     | false =>
      simp only [Bool.false_eq_true,if_false]
      refine ⟨h2,fun i hi => ?_,fun i hi => h4 i (by omega),?_,h6,h7⟩
      ·by_cases hij:i = j
       ·subst hij; rw [if_pos rfl,hself]; conv => lhs; rw [show m.at i = { m.at i with fr:=(m.at i).fr } from rfl,hf]
       ·rw [if_neg hij]; exact h3 i (by omega)
      ·rw [List.filter_append,hcong,h5]
       simp [hf]
     | true =>
      simp only [if_true]
      have hjl:j < M.I.length:=by omega
      have hat:∀ i,RM.at { M with I:=M.I.set j { m.at j with fr:=true },turn:=if (m.at j).q.isEmpty = true then M.turn else M.turn ++ [j] } i = if j = i then { m.at j with fr:=true } else M.at i:=fun i => by
       show (M.I.set j _).getD i RI.no = _
       rw [getD_set]
       by_cases hij:j = i
       ·subst hij; rw [if_pos ⟨rfl,hjl⟩,if_pos rfl]
       ·rw [if_neg (fun h => hij h.1),if_neg hij]; rfl
      refine ⟨by simp [h2],fun i hi => ?_,fun i hi => ?_,?_,h6,h7⟩
      ·rw [hat]
       by_cases hij:i = j
       ·subst hij; rw [if_pos rfl,if_pos rfl]
       ·rw [if_neg (fun e => hij e.symm),if_neg hij]; exact h3 i (by omega)
      ·rw [hat,if_neg (by omega)]; exact h4 i (by omega)
      ·show (if (m.at j).q.isEmpty = true then M.turn else M.turn ++ [j]) = _
       rw [List.filter_append,hcong,h5]
       cases hq:(m.at j).q.isEmpty with
       | true => simp [hf,hq]
       | false => simp [hf,hq]
 obtain ⟨f,h1,h2,h3,_,h5,h6,h7⟩:=key m.I.length (Nat.le_refl _)
 exact ⟨f,h1,h2,h3,h5,h6,h7⟩

theorem fresh_unique {m:RM} (hr:m.Ranked) {f g:Nat -> Bool} (hf:∀ i,i < m.I.length -> f i = ((m.at i).fr || (f (m.at i).bh.toNat && (m.at (m.at i).bh.toNat).dead)))
  (hg:∀ i,i < m.I.length -> g i = ((m.at i).fr || (g (m.at i).bh.toNat && (m.at (m.at i).bh.toNat).dead))):∀ i,i < m.I.length -> f i = g i:=by
 intro i
 induction i using Nat.strongRecOn with
 | _ i ih =>
  intro hi
  rw [hf i hi,hg i hi]
  cases h:(m.at i).fr with
  | true => rfl
  | false =>
   have:=hr i hi h
   rw [ih _ (by omega) (by omega)]
end Go.V
/- Mergers as they lie in a state. -/
namespace Go.V

inductive MRole where
 | m | ins | turn | todo | now
 | inp (k:Nat) | beh (k:Nat) | itm (k:Nat)
 | x (i:Nat)
 deriving DecidableEq
abbrev MH:=Heap MRole

structure OC where
 cs:List AV
 e:Nat
 sz:Nat
 g:Bool
def OC.o (x:OC):AObj:=.cells x.cs x.e x.sz x.g
structure OE where
 cs:List AV
 g:Bool
structure RS where
 id:Nat
 n:Nat
def RS.v (x:RS):AV:=.rslice x.id 0 x.n

inductive SlAt (c:MH) (r:MRole) (e sz:Nat):AV -> List AV -> Prop where
 | nil:SlAt c r e sz .nilslice []
 | row (id n:Nat) (g:Bool) (cs:List AV) (h:c r = some (id,.cells cs e sz g)) (hl:cs.length = n * sz):SlAt c r e sz (.rslice id 0 n) cs

theorem SlAt.congr {c c':MH} {r:MRole} {e sz:Nat} {v:AV} {cs:List AV} (h:SlAt c r e sz v cs) (hc:c' r = c r):SlAt c' r e sz v cs:=by
 cases h with
 | nil => exact .nil
 | row id n g cs h hl => exact .row id n g cs (hc.trans h) hl

def QuAt (c:MH) (r:MRole) (e sz:Nat) (v:AV) (fr:Nat) (n:Nat) (cs:List AV):Prop:=∃ pre,SlAt c r e sz v (pre ++ cs) /\ pre.length = fr * sz /\ cs.length = n * sz /\ fr <= 32 + n
theorem QuAt.congr {c c':MH} {r:MRole} {e sz fr n:Nat} {v:AV} {cs:List AV} (h:QuAt c r e sz v fr n cs) (hc:c' r = c r):QuAt c' r e sz v fr n cs:=by
 obtain ⟨pre,h1,h2⟩:=h
 exact ⟨pre,h1.congr hc,h2⟩

structure PI where
 op:Bool
 fr:Bool
 beh:List Nat
 q:List T
def PI.no:PI:=⟨false,false,[],[]⟩
structure PM where
 I:List PI
 turn:List Nat
 came:Nat
 gone:Nat
 work:Nat
 count:Nat
def PM.at (p:PM) (k:Nat):PI:=p.I.getD k PI.no

def intsV (l:List Nat):List AV:=l.map fun (i:Nat) => AV.int .i64 (i:Int)
def ptrsV (l:List Nat):List AV:=l.map fun (i:Nat) => AV.ptr i 0

structure InpAt (c:MH) (k id:Nat) (x:PI):Prop where
 ex:∃ (bv qv:AV) (qf:Nat),c (.inp k) = some (id,.cells [.bool x.op,.bool x.fr,bv,qv,.int .i64 (qf:Int)] 159 5 false) /\ SlAt c (.beh k) 3 1 bv (intsV x.beh) /\ QuAt c (.itm k) 37 4 qv qf x.q.length (flat (tcellL x.q))
theorem InpAt.congr {c c':MH} {k id:Nat} {x:PI} (h:InpAt c k id x) (h1:c' (.inp k) = c (.inp k)) (h2:c' (.beh k) = c (.beh k)) (h3:c' (.itm k) = c (.itm k)):InpAt c' k id x:=by
 obtain ⟨bv,qv,qf,a,b,d⟩:=h.ex
 exact ⟨bv,qv,qf,h1.trans a,b.congr h2,d.congr h3⟩

structure ML where
 M:Nat
 iv:AV
 tv:AV
 tf:Nat
 ids:List Nat
def mcells (L:ML) (p:PM):List AV:=[L.iv,L.tv,.int .i64 (L.tf:Int),.int .i64 (p.came:Int),.int .i64 (p.gone:Int),.int .i64 (p.work:Int),.int .i64 (p.count:Int)]
structure Rep (c:MH) (L:ML) (p:PM):Prop where
 m:c .m = some (L.M,.cells (mcells L p) 153 7 false)
 ins:SlAt c .ins 155 1 L.iv (ptrsV L.ids)
 turn:QuAt c .turn 3 1 L.tv L.tf p.turn.length (intsV p.turn)
 len:L.ids.length = p.I.length
 inp:∀ k (h:k < L.ids.length),InpAt c k L.ids[k] (p.at k)

def Same (c c':MH) (l:List MRole):Prop:=∀ q,q ∉ l -> c' q = c q
theorem Same.refl (c:MH) (l:List MRole):Same c c l:=fun _ _ => rfl
theorem Same.trans {c c' c'':MH} {l:List MRole} (h:Same c c' l) (k:Same c' c'' l):Same c c'' l:=fun q hq => (k q hq).trans (h q hq)
theorem Same.wide {c c':MH} {l l':List MRole} (h:Same c c' l) (hl:∀ q ∈ l,q ∈ l'):Same c c' l':=fun q hq => h q fun hm => hq (hl q hm)
theorem Same.hup {c:MH} {r:MRole} {x:Option (Nat × AObj)} {l:List MRole} (h:r ∈ l):Same c (hup c r x) l:=fun q hq => hup_ne fun e => hq (by rw [e]; exact h)

theorem SlAt.len {c:MH} {r:MRole} {e sz:Nat} {v:AV} {cs:List AV} (h:SlAt c r e sz v cs):∃ n,cs.length = n * sz:=by
 cases h with
 | nil => exact ⟨0,by simp⟩
 | row id n g cs h hl => exact ⟨n,hl⟩
theorem intsV_len (l:List Nat):(intsV l).length = l.length:=List.length_map _
theorem ptrsV_len (l:List Nat):(ptrsV l).length = l.length:=List.length_map _
theorem intsV_get {l:List Nat} {i:Nat} (h:i < l.length):(intsV l).getD i .undef = .int .i64 (l[i]:Int):=by
 unfold intsV; rw [List.getD,List.getElem?_map,List.getElem?_eq_getElem h]; rfl
theorem ptrsV_get {l:List Nat} {i:Nat} (h:i < l.length):(ptrsV l).getD i .undef = .ptr l[i] 0:=by
 unfold ptrsV; rw [List.getD,List.getElem?_map,List.getElem?_eq_getElem h]; rfl
theorem intsV_append (l m:List Nat):intsV (l ++ m) = intsV l ++ intsV m:=List.map_append
end Go.V
/- Conditions: the queues of a merger. -/
set_option maxRecDepth 1000000
namespace Go.V
open Go Go.Proofs

def hRS:Hint:=Hint.ofAs OC.o RS.v
def hNil:Hint:=Hint.ofAs OC.o (fun _:Unit => AV.nilslice)
def hInt:Hint:=Hint.ofAs OC.o (fun n:Nat => AV.int .i64 (n:Int))
def hEl (e sz:Nat):Hint:=Hint.of (fun x:OE => AObj.cells x.cs e sz x.g)
def hElInt:Hint:=Hint.ofAs (fun x:OE => AObj.cells x.cs 3 1 x.g) (fun n:Nat => AV.int .i64 (n:Int))
def hElTm:Hint:=Hint.ofAs (fun x:OE => AObj.cells x.cs 37 4 x.g) (fun t:T => AV.agg (tc t))
def hOb:Hint:=Hint.of OC.o
def hAt (l:List (Nat × Nat × Hint)):FnHint:=fun id i => match l.find? (fun x => Nat.beq x.1 id && Nat.beq x.2.1 i) with
 | some x => x.2.2
 | none => Hint.no
def N89n:FnHint:=hAt [(0,4,hNil),(0,7,Hint.s),(0,10,hOb)]
def N89r:FnHint:=hAt [(0,4,hRS),(0,7,hEl 3 1),(0,10,hOb)]
theorem vc89n (B:Nat) (w0:World) (G:Nat -> AV) (σ:State) (id off:Nat) (x:Int) (Q:AV -> State -> Prop):(bodyC (EV B w0 G) (H0 (EV B w0 G)) (fun _ _ _ _ => False) annA N89n 89 [.ptr id off,.int .i64 x] σ Q) =
 ((∃ a0:OC,(((State.objs σ (id)) = (AObj.cells (OC.cs a0) (OC.e a0) (OC.sz a0) (OC.g a0)))/\
 (((((off) + 0):Nat) < (List.length (OC.cs a0)))/\
 (∃ x1:Unit,(((List.getD (OC.cs a0) (off + 0) AV.undef) = AV.nilslice)/\
 ((((8:Nat) <= 140737488355328)/\
 ((1:Nat) <= 4611686018427387904))/\
 (∃ a2:OC,(((State.objs (State.new σ (AObj.cells [(AV.int .i64 (x))] 3 1 true)) (id)) = (AObj.cells (OC.cs a2) (OC.e a2) (OC.sz a2) (OC.g a2)))/\
 ((((((off) + 0) + 1):Nat) <= (List.length (OC.cs a2)))/\
 (Q (AV.tuple []) (State.set (State.new σ (AObj.cells [(AV.int .i64 (x))] 3 1 true)) (id) (AObj.cells (asplice (OC.cs a2) ((off) + 0) [(AV.rslice (State.next σ) 0 1)]) (OC.e a2) (OC.sz a2) (OC.g a2)))))))))))))):=by kernel_rfl
theorem vc89r (B:Nat) (w0:World) (G:Nat -> AV) (σ:State) (id off:Nat) (x:Int) (Q:AV -> State -> Prop):(bodyC (EV B w0 G) (H0 (EV B w0 G)) (fun _ _ _ _ => False) annA N89r 89 [.ptr id off,.int .i64 x] σ Q) =
 ((∃ a0:OC,(((State.objs σ (id)) = (AObj.cells (OC.cs a0) (OC.e a0) (OC.sz a0) (OC.g a0)))/\
 (((((off) + 0):Nat) < (List.length (OC.cs a0)))/\
 (∃ x1:RS,(((List.getD (OC.cs a0) (off + 0) AV.undef) = (AV.rslice (RS.id x1) 0 (RS.n x1)))/\
 (∃ a2:OE,(((State.objs σ (RS.id x1)) = (AObj.cells (OE.cs a2) 3 1 (OE.g a2)))/\
 ((((0:Nat) = 0)/\
 (((((((RS.n x1) + 1) * 8):Nat) <= 140737488355328)/\
 ((((RS.n x1) + 1):Nat) <= 4611686018427387904))/\
 ((((RS.n x1) * 1):Nat) <= (List.length (OE.cs a2)))))/\
 (∃ a3:OC,(((State.objs (State.new (State.set σ (RS.id x1) AObj.dead) (AObj.cells ((List.take ((RS.n x1) * 1) (OE.cs a2)) ++ [(AV.int .i64 (x))]) 3 1 true)) (id)) = (AObj.cells (OC.cs a3) (OC.e a3) (OC.sz a3) (OC.g a3)))/\
 ((((((off) + 0) + 1):Nat) <= (List.length (OC.cs a3)))/\
 (Q (AV.tuple []) (State.set (State.new (State.set σ (RS.id x1) AObj.dead) (AObj.cells ((List.take ((RS.n x1) * 1) (OE.cs a2)) ++ [(AV.int .i64 (x))]) 3 1 true)) (id) (AObj.cells (asplice (OC.cs a3) ((off) + 0) [(AV.rslice (State.next σ) 0 ((RS.n x1) + 1))]) (OC.e a3) (OC.sz a3) (OC.g a3)))))))))))))))):=by kernel_rfl
def N67n:FnHint:=hAt [(1,3,hNil),(1,7,Hint.s),(1,8,hEl 37 4),(1,9,hEl 37 4),(1,12,hOb)]
def N67r:FnHint:=hAt [(1,3,hRS),(1,7,hEl 37 4),(1,8,hEl 37 4),(1,9,hEl 37 4),(1,12,hOb)]
theorem vc67r (B:Nat) (w0:World) (G:Nat -> AV) (σ:State) (id off:Nat) (x:T) (Q:AV -> State -> Prop):(bodyC (EV B w0 G) (H0 (EV B w0 G)) (fun _ _ _ _ => False) annA N67r 67 [.ptr id off,.agg (tc x)] σ Q) =
 ((∃ a0:OC,(((State.objs σ (id)) = (AObj.cells (OC.cs a0) (OC.e a0) (OC.sz a0) (OC.g a0)))/\
 (((((off) + 0):Nat) < (List.length (OC.cs a0)))/\
 (∃ x1:RS,(((List.getD (OC.cs a0) (off + 0) AV.undef) = (AV.rslice (RS.id x1) 0 (RS.n x1)))/\
 (∃ a2:OE,(((State.objs σ (RS.id x1)) = (AObj.cells (OE.cs a2) 37 4 (OE.g a2)))/\
 ((((0:Nat) = 0)/\
 (((((((RS.n x1) + 1) * 56):Nat) <= 140737488355328)/\
 ((((RS.n x1) + 1):Nat) <= 4611686018427387904))/\
 ((((RS.n x1) * 4):Nat) <= (List.length (OE.cs a2)))))/\
 (∃ a3:OE,(((State.objs (State.new (State.set σ (RS.id x1) AObj.dead) (AObj.cells ((List.take ((RS.n x1) * 4) (OE.cs a2)) ++ [(AV.int .i64 0),(AV.int .i64 0),(AV.str ⟨⟨[]⟩⟩),AV.nilslice]) 37 4 true)) (State.next σ)) = (AObj.cells (OE.cs a3) 37 4 (OE.g a3)))/\
 ((((0:Int) <= ((RS.n x1:Nat):Int))/\
 ((((RS.n x1:Nat):Int):Int) < ((((RS.n x1) + 1):Nat):Int)))/\
 ((∃ a4:OE,(((State.objs (State.new (State.set σ (RS.id x1) AObj.dead) (AObj.cells ((List.take ((RS.n x1) * 4) (OE.cs a2)) ++ [(AV.int .i64 0),(AV.int .i64 0),(AV.str ⟨⟨[]⟩⟩),AV.nilslice]) 37 4 true)) (State.next σ)) = (AObj.cells (OE.cs a4) 37 4 (OE.g a4)))/\
 ((((((0 + (Int.toNat ((RS.n x1:Nat):Int))) * 4) + 4):Nat) <= (List.length (OE.cs a4)))/\
 ((Rf (TV.v (AV.ptr (id) (off))))/\
 ((Rf (TV.v (AV.ptr (id) ((off) + 0))))/\
 (∃ a5:OC,(((State.objs (State.set (State.new (State.set σ (RS.id x1) AObj.dead) (AObj.cells ((List.take ((RS.n x1) * 4) (OE.cs a2)) ++ [(AV.int .i64 0),(AV.int .i64 0),(AV.str ⟨⟨[]⟩⟩),AV.nilslice]) 37 4 true)) (State.next σ) (AObj.cells (asplice (OE.cs a4) ((0 + (Int.toNat ((RS.n x1:Nat):Int))) * 4) [(AV.int .i64 (T.k x)),(AV.int .i64 (T.n x)),(AV.str (T.s x)),(AV.slice 4 (tcellL (T.l x)) Cap.any)]) 37 4 (OE.g a4))) (id)) = (AObj.cells (OC.cs a5) (OC.e a5) (OC.sz a5) (OC.g a5)))/\
 ((((((off) + 0) + 1):Nat) <= (List.length (OC.cs a5)))/\
 (Q (AV.tuple []) (State.set (State.set (State.new (State.set σ (RS.id x1) AObj.dead) (AObj.cells ((List.take ((RS.n x1) * 4) (OE.cs a2)) ++ [(AV.int .i64 0),(AV.int .i64 0),(AV.str ⟨⟨[]⟩⟩),AV.nilslice]) 37 4 true)) (State.next σ) (AObj.cells (asplice (OE.cs a4) ((0 + (Int.toNat ((RS.n x1:Nat):Int))) * 4) [(AV.int .i64 (T.k x)),(AV.int .i64 (T.n x)),(AV.str (T.s x)),(AV.slice 4 (tcellL (T.l x)) Cap.any)]) 37 4 (OE.g a4))) (id) (AObj.cells (asplice (OC.cs a5) ((off) + 0) [(AV.rslice (State.next σ) 0 ((RS.n x1) + 1))]) (OC.e a5) (OC.sz a5) (OC.g a5))))))))))))/\
 (∃ a4:OC,(((State.objs (State.new (State.set σ (RS.id x1) AObj.dead) (AObj.cells ((List.take ((RS.n x1) * 4) (OE.cs a2)) ++ [(AV.int .i64 0),(AV.int .i64 0),(AV.str ⟨⟨[]⟩⟩),AV.nilslice]) 37 4 true)) (id)) = (AObj.cells (OC.cs a4) (OC.e a4) (OC.sz a4) (OC.g a4)))/\
 ((((((off) + 0) + 1):Nat) <= (List.length (OC.cs a4)))/\
 ((∃ a5:OE,(((State.objs (State.set (State.new (State.set σ (RS.id x1) AObj.dead) (AObj.cells ((List.take ((RS.n x1) * 4) (OE.cs a2)) ++ [(AV.int .i64 0),(AV.int .i64 0),(AV.str ⟨⟨[]⟩⟩),AV.nilslice]) 37 4 true)) (id) (AObj.cells (asplice (OC.cs a4) ((off) + 0) [(AV.rslice (State.next σ) 0 ((RS.n x1) + 1))]) (OC.e a4) (OC.sz a4) (OC.g a4))) (State.next σ)) = (AObj.cells (OE.cs a5) 37 4 (OE.g a5)))/\
 ((((0:Int) <= ((RS.n x1:Nat):Int))/\
 ((((RS.n x1:Nat):Int):Int) < ((((RS.n x1) + 1):Nat):Int)))/\
 (Rf (TV.v (AV.ptr (State.next σ) ((0 + (Int.toNat ((RS.n x1:Nat):Int))) * 4)))))))/\
 (∃ a5:OE,(((State.objs (State.set (State.new (State.set σ (RS.id x1) AObj.dead) (AObj.cells ((List.take ((RS.n x1) * 4) (OE.cs a2)) ++ [(AV.int .i64 0),(AV.int .i64 0),(AV.str ⟨⟨[]⟩⟩),AV.nilslice]) 37 4 true)) (id) (AObj.cells (asplice (OC.cs a4) ((off) + 0) [(AV.rslice (State.next σ) 0 ((RS.n x1) + 1))]) (OC.e a4) (OC.sz a4) (OC.g a4))) (State.next σ)) = (AObj.cells (OE.cs a5) 37 4 (OE.g a5)))/\
 ((((((0 + (Int.toNat ((RS.n x1:Nat):Int))) * 4) + 4):Nat) <= (List.length (OE.cs a5)))/\
 (Q (AV.tuple []) (State.set (State.set (State.new (State.set σ (RS.id x1) AObj.dead) (AObj.cells ((List.take ((RS.n x1) * 4) (OE.cs a2)) ++ [(AV.int .i64 0),(AV.int .i64 0),(AV.str ⟨⟨[]⟩⟩),AV.nilslice]) 37 4 true)) (id) (AObj.cells (asplice (OC.cs a4) ((off) + 0) [(AV.rslice (State.next σ) 0 ((RS.n x1) + 1))]) (OC.e a4) (OC.sz a4) (OC.g a4))) (State.next σ) (AObj.cells (asplice (OE.cs a5) ((0 + (Int.toNat ((RS.n x1:Nat):Int))) * 4) [(AV.int .i64 (T.k x)),(AV.int .i64 (T.n x)),(AV.str (T.s x)),(AV.slice 4 (tcellL (T.l x)) Cap.any)]) 37 4 (OE.g a5)))))))))))))))))))))))):=by kernel_rfl
theorem vc67n (B:Nat) (w0:World) (G:Nat -> AV) (σ:State) (id off:Nat) (x:T) (Q:AV -> State -> Prop):(bodyC (EV B w0 G) (H0 (EV B w0 G)) (fun _ _ _ _ => False) annA N67n 67 [.ptr id off,.agg (tc x)] σ Q) =
 ((∃ a0:OC,(((State.objs σ (id)) = (AObj.cells (OC.cs a0) (OC.e a0) (OC.sz a0) (OC.g a0)))/\
 (((((off) + 0):Nat) < (List.length (OC.cs a0)))/\
 (∃ x1:Unit,(((List.getD (OC.cs a0) (off + 0) AV.undef) = AV.nilslice)/\
 ((((56:Nat) <= 140737488355328)/\
 ((1:Nat) <= 4611686018427387904))/\
 (∃ a2:OE,(((State.objs (State.new σ (AObj.cells [(AV.int .i64 0),(AV.int .i64 0),(AV.str ⟨⟨[]⟩⟩),AV.nilslice] 37 4 true)) (State.next σ)) = (AObj.cells (OE.cs a2) 37 4 (OE.g a2)))/\
 ((((0:Int) <= 0)/\
 ((0:Int) < 1))/\
 ((∃ a3:OE,(((State.objs (State.new σ (AObj.cells [(AV.int .i64 0),(AV.int .i64 0),(AV.str ⟨⟨[]⟩⟩),AV.nilslice] 37 4 true)) (State.next σ)) = (AObj.cells (OE.cs a3) 37 4 (OE.g a3)))/\
 (((4:Nat) <= (List.length (OE.cs a3)))/\
 ((Rf (TV.v (AV.ptr (id) (off))))/\
 ((Rf (TV.v (AV.ptr (id) ((off) + 0))))/\
 (∃ a4:OC,(((State.objs (State.set (State.new σ (AObj.cells [(AV.int .i64 0),(AV.int .i64 0),(AV.str ⟨⟨[]⟩⟩),AV.nilslice] 37 4 true)) (State.next σ) (AObj.cells (asplice (OE.cs a3) 0 [(AV.int .i64 (T.k x)),(AV.int .i64 (T.n x)),(AV.str (T.s x)),(AV.slice 4 (tcellL (T.l x)) Cap.any)]) 37 4 (OE.g a3))) (id)) = (AObj.cells (OC.cs a4) (OC.e a4) (OC.sz a4) (OC.g a4)))/\
 ((((((off) + 0) + 1):Nat) <= (List.length (OC.cs a4)))/\
 (Q (AV.tuple []) (State.set (State.set (State.new σ (AObj.cells [(AV.int .i64 0),(AV.int .i64 0),(AV.str ⟨⟨[]⟩⟩),AV.nilslice] 37 4 true)) (State.next σ) (AObj.cells (asplice (OE.cs a3) 0 [(AV.int .i64 (T.k x)),(AV.int .i64 (T.n x)),(AV.str (T.s x)),(AV.slice 4 (tcellL (T.l x)) Cap.any)]) 37 4 (OE.g a3))) (id) (AObj.cells (asplice (OC.cs a4) ((off) + 0) [(AV.rslice (State.next σ) 0 1)]) (OC.e a4) (OC.sz a4) (OC.g a4))))))))))))/\
 (∃ a3:OC,(((State.objs (State.new σ (AObj.cells [(AV.int .i64 0),(AV.int .i64 0),(AV.str ⟨⟨[]⟩⟩),AV.nilslice] 37 4 true)) (id)) = (AObj.cells (OC.cs a3) (OC.e a3) (OC.sz a3) (OC.g a3)))/\
 ((((((off) + 0) + 1):Nat) <= (List.length (OC.cs a3)))/\
 ((∃ a4:OE,(((State.objs (State.set (State.new σ (AObj.cells [(AV.int .i64 0),(AV.int .i64 0),(AV.str ⟨⟨[]⟩⟩),AV.nilslice] 37 4 true)) (id) (AObj.cells (asplice (OC.cs a3) ((off) + 0) [(AV.rslice (State.next σ) 0 1)]) (OC.e a3) (OC.sz a3) (OC.g a3))) (State.next σ)) = (AObj.cells (OE.cs a4) 37 4 (OE.g a4)))/\
 ((((0:Int) <= 0)/\
 ((0:Int) < 1))/\
 (Rf (TV.v (AV.ptr (State.next σ) 0))))))/\
 (∃ a4:OE,(((State.objs (State.set (State.new σ (AObj.cells [(AV.int .i64 0),(AV.int .i64 0),(AV.str ⟨⟨[]⟩⟩),AV.nilslice] 37 4 true)) (id) (AObj.cells (asplice (OC.cs a3) ((off) + 0) [(AV.rslice (State.next σ) 0 1)]) (OC.e a3) (OC.sz a3) (OC.g a3))) (State.next σ)) = (AObj.cells (OE.cs a4) 37 4 (OE.g a4)))/\
 (((4:Nat) <= (List.length (OE.cs a4)))/\
 (Q (AV.tuple []) (State.set (State.set (State.new σ (AObj.cells [(AV.int .i64 0),(AV.int .i64 0),(AV.str ⟨⟨[]⟩⟩),AV.nilslice] 37 4 true)) (id) (AObj.cells (asplice (OC.cs a3) ((off) + 0) [(AV.rslice (State.next σ) 0 1)]) (OC.e a3) (OC.sz a3) (OC.g a3))) (State.next σ) (AObj.cells (asplice (OE.cs a4) 0 [(AV.int .i64 (T.k x)),(AV.int .i64 (T.n x)),(AV.str (T.s x)),(AV.slice 4 (tcellL (T.l x)) Cap.any)]) 37 4 (OE.g a4)))))))))))))))))))))):=by kernel_rfl
def N91:FnHint:=hAt [(2,3,hRS),(2,7,hInt),(2,8,hEl 3 1),(2,9,hElInt),(3,3,hRS),(3,7,hInt),(3,9,hEl 3 1),(3,10,hEl 3 1),(4,3,hInt),(4,7,hOb),(5,3,hInt),(5,9,hInt),(5,14,hRS),(6,5,hRS),(6,9,hInt),(6,13,hRS),(6,18,hRS),(6,20,hEl 3 1),(6,21,hEl 3 1),(6,24,hOb),(6,27,hOb)]
theorem vc91 (B:Nat) (w0:World) (G:Nat -> AV) (σ:State) (id off:Nat) (Q:AV -> State -> Prop):(bodyC (EV B w0 G) (H0 (EV B w0 G)) (fun _ _ _ _ => False) annA N91 91 [.ptr id off] σ Q) =
 ((∃ a0:OC,(((State.objs σ (id)) = (AObj.cells (OC.cs a0) (OC.e a0) (OC.sz a0) (OC.g a0)))/\
 (((((off) + 0):Nat) < (List.length (OC.cs a0)))/\
 (∃ x1:RS,(((List.getD (OC.cs a0) (off + 0) AV.undef) = (AV.rslice (RS.id x1) 0 (RS.n x1)))/\
 (∃ a2:OC,(((State.objs σ (id)) = (AObj.cells (OC.cs a2) (OC.e a2) (OC.sz a2) (OC.g a2)))/\
 (((((off) + 1):Nat) < (List.length (OC.cs a2)))/\
 (∃ x3:Nat,(((List.getD (OC.cs a2) (off + 1) AV.undef) = (AV.int .i64 ((x3:Nat):Int)))/\
 (∃ a4:OE,(((State.objs σ (RS.id x1)) = (AObj.cells (OE.cs a4) 3 1 (OE.g a4)))/\
 ((((0:Int) <= ((x3:Nat):Int))/\
 ((((x3:Nat):Int):Int) < ((RS.n x1:Nat):Int)))/\
 (∃ a5:OE,(((State.objs σ (RS.id x1)) = (AObj.cells (OE.cs a5) 3 1 (OE.g a5)))/\
 (((((0 + (Int.toNat ((x3:Nat):Int))) * 1):Nat) < (List.length (OE.cs a5)))/\
 (∃ x6:Nat,(((List.getD (OE.cs a5) ((0 + Int.toNat (↑x3:Int)) * 1) AV.undef) = (AV.int .i64 ((x6:Nat):Int)))/\
 (∃ a7:OC,(((State.objs σ (id)) = (AObj.cells (OC.cs a7) (OC.e a7) (OC.sz a7) (OC.g a7)))/\
 (((((off) + 0):Nat) < (List.length (OC.cs a7)))/\
 (∃ x8:RS,(((List.getD (OC.cs a7) (off + 0) AV.undef) = (AV.rslice (RS.id x8) 0 (RS.n x8)))/\
 (∃ a9:OC,(((State.objs σ (id)) = (AObj.cells (OC.cs a9) (OC.e a9) (OC.sz a9) (OC.g a9)))/\
 (((((off) + 1):Nat) < (List.length (OC.cs a9)))/\
 (∃ x10:Nat,(((List.getD (OC.cs a9) (off + 1) AV.undef) = (AV.int .i64 ((x10:Nat):Int)))/\
 (∃ a11:OE,(((State.objs σ (RS.id x8)) = (AObj.cells (OE.cs a11) 3 1 (OE.g a11)))/\
 ((((0:Int) <= ((x10:Nat):Int))/\
 ((((x10:Nat):Int):Int) < ((RS.n x8:Nat):Int)))/\
 (∃ a12:OE,(((State.objs σ (RS.id x8)) = (AObj.cells (OE.cs a12) 3 1 (OE.g a12)))/\
 ((((((0 + (Int.toNat ((x10:Nat):Int))) * 1) + 1):Nat) <= (List.length (OE.cs a12)))/\
 (∃ a13:OC,(((State.objs (State.set σ (RS.id x8) (AObj.cells (asplice (OE.cs a12) ((0 + (Int.toNat ((x10:Nat):Int))) * 1) [(AV.int .i64 0)]) 3 1 (OE.g a12))) (id)) = (AObj.cells (OC.cs a13) (OC.e a13) (OC.sz a13) (OC.g a13)))/\
 (((((off) + 1):Nat) < (List.length (OC.cs a13)))/\
 (∃ x14:Nat,(((List.getD (OC.cs a13) (off + 1) AV.undef) = (AV.int .i64 ((x14:Nat):Int)))/\
 (∃ a15:OC,(((State.objs (State.set σ (RS.id x8) (AObj.cells (asplice (OE.cs a12) ((0 + (Int.toNat ((x10:Nat):Int))) * 1) [(AV.int .i64 0)]) 3 1 (OE.g a12))) (id)) = (AObj.cells (OC.cs a15) (OC.e a15) (OC.sz a15) (OC.g a15)))/\
 ((((((off) + 1) + 1):Nat) <= (List.length (OC.cs a15)))/\
 (∃ a16:OC,(((State.objs (State.set (State.set σ (RS.id x8) (AObj.cells (asplice (OE.cs a12) ((0 + (Int.toNat ((x10:Nat):Int))) * 1) [(AV.int .i64 0)]) 3 1 (OE.g a12))) (id) (AObj.cells (asplice (OC.cs a15) ((off) + 1) [(AV.int .i64 (IntKind.wrap .i64 (((x14:Nat):Int) + 1)))]) (OC.e a15) (OC.sz a15) (OC.g a15))) (id)) = (AObj.cells (OC.cs a16) (OC.e a16) (OC.sz a16) (OC.g a16)))/\
 (((((off) + 1):Nat) < (List.length (OC.cs a16)))/\
 (∃ x17:Nat,(((List.getD (OC.cs a16) (off + 1) AV.undef) = (AV.int .i64 ((x17:Nat):Int)))/\
 (bcase (decide ((((x17:Nat):Int):Int) > 32))
 (∃ a18:OC,(((State.objs (State.set (State.set σ (RS.id x8) (AObj.cells (asplice (OE.cs a12) ((0 + (Int.toNat ((x10:Nat):Int))) * 1) [(AV.int .i64 0)]) 3 1 (OE.g a12))) (id) (AObj.cells (asplice (OC.cs a15) ((off) + 1) [(AV.int .i64 (IntKind.wrap .i64 (((x14:Nat):Int) + 1)))]) (OC.e a15) (OC.sz a15) (OC.g a15))) (id)) = (AObj.cells (OC.cs a18) (OC.e a18) (OC.sz a18) (OC.g a18)))/\
 (((((off) + 1):Nat) < (List.length (OC.cs a18)))/\
 (∃ x19:Nat,(((List.getD (OC.cs a18) (off + 1) AV.undef) = (AV.int .i64 ((x19:Nat):Int)))/\
 (∃ a20:OC,(((State.objs (State.set (State.set σ (RS.id x8) (AObj.cells (asplice (OE.cs a12) ((0 + (Int.toNat ((x10:Nat):Int))) * 1) [(AV.int .i64 0)]) 3 1 (OE.g a12))) (id) (AObj.cells (asplice (OC.cs a15) ((off) + 1) [(AV.int .i64 (IntKind.wrap .i64 (((x14:Nat):Int) + 1)))]) (OC.e a15) (OC.sz a15) (OC.g a15))) (id)) = (AObj.cells (OC.cs a20) (OC.e a20) (OC.sz a20) (OC.g a20)))/\
 (((((off) + 0):Nat) < (List.length (OC.cs a20)))/\
 (∃ x21:RS,(((List.getD (OC.cs a20) (off + 0) AV.undef) = (AV.rslice (RS.id x21) 0 (RS.n x21)))/\
 (bcase (decide (((IntKind.wrap .i64 (2 * ((x19:Nat):Int))):Int) > ((RS.n x21:Nat):Int)))
 (∃ a22:OC,(((State.objs (State.set (State.set σ (RS.id x8) (AObj.cells (asplice (OE.cs a12) ((0 + (Int.toNat ((x10:Nat):Int))) * 1) [(AV.int .i64 0)]) 3 1 (OE.g a12))) (id) (AObj.cells (asplice (OC.cs a15) ((off) + 1) [(AV.int .i64 (IntKind.wrap .i64 (((x14:Nat):Int) + 1)))]) (OC.e a15) (OC.sz a15) (OC.g a15))) (id)) = (AObj.cells (OC.cs a22) (OC.e a22) (OC.sz a22) (OC.g a22)))/\
 (((((off) + 0):Nat) < (List.length (OC.cs a22)))/\
 (∃ x23:RS,(((List.getD (OC.cs a22) (off + 0) AV.undef) = (AV.rslice (RS.id x23) 0 (RS.n x23)))/\
 (∃ a24:OC,(((State.objs (State.set (State.set σ (RS.id x8) (AObj.cells (asplice (OE.cs a12) ((0 + (Int.toNat ((x10:Nat):Int))) * 1) [(AV.int .i64 0)]) 3 1 (OE.g a12))) (id) (AObj.cells (asplice (OC.cs a15) ((off) + 1) [(AV.int .i64 (IntKind.wrap .i64 (((x14:Nat):Int) + 1)))]) (OC.e a15) (OC.sz a15) (OC.g a15))) (id)) = (AObj.cells (OC.cs a24) (OC.e a24) (OC.sz a24) (OC.g a24)))/\
 (((((off) + 1):Nat) < (List.length (OC.cs a24)))/\
 (∃ x25:Nat,(((List.getD (OC.cs a24) (off + 1) AV.undef) = (AV.int .i64 ((x25:Nat):Int)))/\
 (∃ a26:OC,(((State.objs (State.set (State.set σ (RS.id x8) (AObj.cells (asplice (OE.cs a12) ((0 + (Int.toNat ((x10:Nat):Int))) * 1) [(AV.int .i64 0)]) 3 1 (OE.g a12))) (id) (AObj.cells (asplice (OC.cs a15) ((off) + 1) [(AV.int .i64 (IntKind.wrap .i64 (((x14:Nat):Int) + 1)))]) (OC.e a15) (OC.sz a15) (OC.g a15))) (id)) = (AObj.cells (OC.cs a26) (OC.e a26) (OC.sz a26) (OC.g a26)))/\
 (((((off) + 0):Nat) < (List.length (OC.cs a26)))/\
 (∃ x27:RS,(((List.getD (OC.cs a26) (off + 0) AV.undef) = (AV.rslice (RS.id x27) 0 (RS.n x27)))/\
 (∃ a28:OC,(((State.objs (State.set (State.set σ (RS.id x8) (AObj.cells (asplice (OE.cs a12) ((0 + (Int.toNat ((x10:Nat):Int))) * 1) [(AV.int .i64 0)]) 3 1 (OE.g a12))) (id) (AObj.cells (asplice (OC.cs a15) ((off) + 1) [(AV.int .i64 (IntKind.wrap .i64 (((x14:Nat):Int) + 1)))]) (OC.e a15) (OC.sz a15) (OC.g a15))) (id)) = (AObj.cells (OC.cs a28) (OC.e a28) (OC.sz a28) (OC.g a28)))/\
 (((((off) + 0):Nat) < (List.length (OC.cs a28)))/\
 (∃ x29:RS,(((List.getD (OC.cs a28) (off + 0) AV.undef) = (AV.rslice (RS.id x29) 0 (RS.n x29)))/\
 (∃ a30:OE,(((State.objs (State.set (State.set σ (RS.id x8) (AObj.cells (asplice (OE.cs a12) ((0 + (Int.toNat ((x10:Nat):Int))) * 1) [(AV.int .i64 0)]) 3 1 (OE.g a12))) (id) (AObj.cells (asplice (OC.cs a15) ((off) + 1) [(AV.int .i64 (IntKind.wrap .i64 (((x14:Nat):Int) + 1)))]) (OC.e a15) (OC.sz a15) (OC.g a15))) (RS.id x23)) = (AObj.cells (OE.cs a30) 3 1 (OE.g a30)))/\
 ((((0:Int) <= ((RS.n x29:Nat):Int))/\
 ((((RS.n x29:Nat):Int):Int) <= ((RS.n x23:Nat):Int)))/\
 ((((0:Int) <= ((RS.n x27:Nat):Int))/\
 ((((RS.n x27:Nat):Int):Int) <= (((Int.toNat ((RS.n x29:Nat):Int)):Nat):Int)))/\
 ((((0:Int) <= ((x25:Nat):Int))/\
 ((((x25:Nat):Int):Int) <= (((Int.toNat ((RS.n x27:Nat):Int)):Nat):Int)))/\
 (∃ a31:OE,(((State.objs (State.set (State.set σ (RS.id x8) (AObj.cells (asplice (OE.cs a12) ((0 + (Int.toNat ((x10:Nat):Int))) * 1) [(AV.int .i64 0)]) 3 1 (OE.g a12))) (id) (AObj.cells (asplice (OC.cs a15) ((off) + 1) [(AV.int .i64 (IntKind.wrap .i64 (((x14:Nat):Int) + 1)))]) (OC.e a15) (OC.sz a15) (OC.g a15))) (RS.id x23)) = (AObj.cells (OE.cs a31) 3 1 (OE.g a31)))/\
 ((((((0 + (Int.toNat ((x25:Nat):Int))) + ((Int.toNat ((RS.n x27:Nat):Int)) - (Int.toNat ((x25:Nat):Int)))) * 1):Nat) <= (List.length (OE.cs a31)))/\
 (bcase (List.isEmpty (chunk Option.none (List.take (((Int.toNat ((RS.n x27:Nat):Int)) - (Int.toNat ((x25:Nat):Int))) * 1) (List.drop ((0 + (Int.toNat ((x25:Nat):Int))) * 1) (OE.cs a31))) ((Int.toNat ((RS.n x27:Nat):Int)) - (Int.toNat ((x25:Nat):Int)))))
 ((Rf (TV.v (AV.ptr (id) (off))))/\
 ((Rf (TV.v (AV.ptr (id) (off))))/\
 (∃ a32:OC,(((State.objs (State.set (State.set σ (RS.id x8) (AObj.cells (asplice (OE.cs a12) ((0 + (Int.toNat ((x10:Nat):Int))) * 1) [(AV.int .i64 0)]) 3 1 (OE.g a12))) (id) (AObj.cells (asplice (OC.cs a15) ((off) + 1) [(AV.int .i64 (IntKind.wrap .i64 (((x14:Nat):Int) + 1)))]) (OC.e a15) (OC.sz a15) (OC.g a15))) (id)) = (AObj.cells (OC.cs a32) (OC.e a32) (OC.sz a32) (OC.g a32)))/\
 ((((((off) + 0) + 1):Nat) <= (List.length (OC.cs a32)))/\
 ((Rf (TV.v (AV.ptr (id) (off))))/\
 (∃ a33:OC,(((State.objs (State.set (State.set (State.set σ (RS.id x8) (AObj.cells (asplice (OE.cs a12) ((0 + (Int.toNat ((x10:Nat):Int))) * 1) [(AV.int .i64 0)]) 3 1 (OE.g a12))) (id) (AObj.cells (asplice (OC.cs a15) ((off) + 1) [(AV.int .i64 (IntKind.wrap .i64 (((x14:Nat):Int) + 1)))]) (OC.e a15) (OC.sz a15) (OC.g a15))) (id) (AObj.cells (asplice (OC.cs a32) ((off) + 0) [AV.nilslice]) (OC.e a32) (OC.sz a32) (OC.g a32))) (id)) = (AObj.cells (OC.cs a33) (OC.e a33) (OC.sz a33) (OC.g a33)))/\
 ((((((off) + 1) + 1):Nat) <= (List.length (OC.cs a33)))/\
 (Q (AV.int .i64 ((x6:Nat):Int)) (State.set (State.set (State.set (State.set σ (RS.id x8) (AObj.cells (asplice (OE.cs a12) ((0 + (Int.toNat ((x10:Nat):Int))) * 1) [(AV.int .i64 0)]) 3 1 (OE.g a12))) (id) (AObj.cells (asplice (OC.cs a15) ((off) + 1) [(AV.int .i64 (IntKind.wrap .i64 (((x14:Nat):Int) + 1)))]) (OC.e a15) (OC.sz a15) (OC.g a15))) (id) (AObj.cells (asplice (OC.cs a32) ((off) + 0) [AV.nilslice]) (OC.e a32) (OC.sz a32) (OC.g a32))) (id) (AObj.cells (asplice (OC.cs a33) ((off) + 1) [(AV.int .i64 0)]) (OC.e a33) (OC.sz a33) (OC.g a33)))))))))))))
 ((((((List.length (chunk Option.none (List.take (((Int.toNat ((RS.n x27:Nat):Int)) - (Int.toNat ((x25:Nat):Int))) * 1) (List.drop ((0 + (Int.toNat ((x25:Nat):Int))) * 1) (OE.cs a31))) ((Int.toNat ((RS.n x27:Nat):Int)) - (Int.toNat ((x25:Nat):Int))))) * 8):Nat) <= 140737488355328)/\
 (((List.length (chunk Option.none (List.take (((Int.toNat ((RS.n x27:Nat):Int)) - (Int.toNat ((x25:Nat):Int))) * 1) (List.drop ((0 + (Int.toNat ((x25:Nat):Int))) * 1) (OE.cs a31))) ((Int.toNat ((RS.n x27:Nat):Int)) - (Int.toNat ((x25:Nat):Int))))):Nat) <= 4611686018427387904))/\
 ((Rf (TV.v (AV.ptr (id) (off))))/\
 ((Rf (TV.v (AV.ptr (id) (off))))/\
 (∃ a32:OC,(((State.objs (State.new (State.set (State.set σ (RS.id x8) (AObj.cells (asplice (OE.cs a12) ((0 + (Int.toNat ((x10:Nat):Int))) * 1) [(AV.int .i64 0)]) 3 1 (OE.g a12))) (id) (AObj.cells (asplice (OC.cs a15) ((off) + 1) [(AV.int .i64 (IntKind.wrap .i64 (((x14:Nat):Int) + 1)))]) (OC.e a15) (OC.sz a15) (OC.g a15))) (AObj.cells (flat (chunk Option.none (List.take (((Int.toNat ((RS.n x27:Nat):Int)) - (Int.toNat ((x25:Nat):Int))) * 1) (List.drop ((0 + (Int.toNat ((x25:Nat):Int))) * 1) (OE.cs a31))) ((Int.toNat ((RS.n x27:Nat):Int)) - (Int.toNat ((x25:Nat):Int))))) 3 1 true)) (id)) = (AObj.cells (OC.cs a32) (OC.e a32) (OC.sz a32) (OC.g a32)))/\
 ((((((off) + 0) + 1):Nat) <= (List.length (OC.cs a32)))/\
 ((Rf (TV.v (AV.ptr (id) (off))))/\
 (∃ a33:OC,(((State.objs (State.set (State.new (State.set (State.set σ (RS.id x8) (AObj.cells (asplice (OE.cs a12) ((0 + (Int.toNat ((x10:Nat):Int))) * 1) [(AV.int .i64 0)]) 3 1 (OE.g a12))) (id) (AObj.cells (asplice (OC.cs a15) ((off) + 1) [(AV.int .i64 (IntKind.wrap .i64 (((x14:Nat):Int) + 1)))]) (OC.e a15) (OC.sz a15) (OC.g a15))) (AObj.cells (flat (chunk Option.none (List.take (((Int.toNat ((RS.n x27:Nat):Int)) - (Int.toNat ((x25:Nat):Int))) * 1) (List.drop ((0 + (Int.toNat ((x25:Nat):Int))) * 1) (OE.cs a31))) ((Int.toNat ((RS.n x27:Nat):Int)) - (Int.toNat ((x25:Nat):Int))))) 3 1 true)) (id) (AObj.cells (asplice (OC.cs a32) ((off) + 0) [(AV.rslice (State.next σ) 0 (List.length (chunk Option.none (List.take (((Int.toNat ((RS.n x27:Nat):Int)) - (Int.toNat ((x25:Nat):Int))) * 1) (List.drop ((0 + (Int.toNat ((x25:Nat):Int))) * 1) (OE.cs a31))) ((Int.toNat ((RS.n x27:Nat):Int)) - (Int.toNat ((x25:Nat):Int))))))]) (OC.e a32) (OC.sz a32) (OC.g a32))) (id)) = (AObj.cells (OC.cs a33) (OC.e a33) (OC.sz a33) (OC.g a33)))/\
 ((((((off) + 1) + 1):Nat) <= (List.length (OC.cs a33)))/\
 (Q (AV.int .i64 ((x6:Nat):Int)) (State.set (State.set (State.new (State.set (State.set σ (RS.id x8) (AObj.cells (asplice (OE.cs a12) ((0 + (Int.toNat ((x10:Nat):Int))) * 1) [(AV.int .i64 0)]) 3 1 (OE.g a12))) (id) (AObj.cells (asplice (OC.cs a15) ((off) + 1) [(AV.int .i64 (IntKind.wrap .i64 (((x14:Nat):Int) + 1)))]) (OC.e a15) (OC.sz a15) (OC.g a15))) (AObj.cells (flat (chunk Option.none (List.take (((Int.toNat ((RS.n x27:Nat):Int)) - (Int.toNat ((x25:Nat):Int))) * 1) (List.drop ((0 + (Int.toNat ((x25:Nat):Int))) * 1) (OE.cs a31))) ((Int.toNat ((RS.n x27:Nat):Int)) - (Int.toNat ((x25:Nat):Int))))) 3 1 true)) (id) (AObj.cells (asplice (OC.cs a32) ((off) + 0) [(AV.rslice (State.next σ) 0 (List.length (chunk Option.none (List.take (((Int.toNat ((RS.n x27:Nat):Int)) - (Int.toNat ((x25:Nat):Int))) * 1) (List.drop ((0 + (Int.toNat ((x25:Nat):Int))) * 1) (OE.cs a31))) ((Int.toNat ((RS.n x27:Nat):Int)) - (Int.toNat ((x25:Nat):Int))))))]) (OC.e a32) (OC.sz a32) (OC.g a32))) (id) (AObj.cells (asplice (OC.cs a33) ((off) + 1) [(AV.int .i64 0)]) (OC.e a33) (OC.sz a33) (OC.g a33)))))))))))))))))))))))))))))))))))))))))))
 (Q (AV.int .i64 ((x6:Nat):Int)) (State.set (State.set σ (RS.id x8) (AObj.cells (asplice (OE.cs a12) ((0 + (Int.toNat ((x10:Nat):Int))) * 1) [(AV.int .i64 0)]) 3 1 (OE.g a12))) (id) (AObj.cells (asplice (OC.cs a15) ((off) + 1) [(AV.int .i64 (IntKind.wrap .i64 (((x14:Nat):Int) + 1)))]) (OC.e a15) (OC.sz a15) (OC.g a15)))))))))))))))
 (Q (AV.int .i64 ((x6:Nat):Int)) (State.set (State.set σ (RS.id x8) (AObj.cells (asplice (OE.cs a12) ((0 + (Int.toNat ((x10:Nat):Int))) * 1) [(AV.int .i64 0)]) 3 1 (OE.g a12))) (id) (AObj.cells (asplice (OC.cs a15) ((off) + 1) [(AV.int .i64 (IntKind.wrap .i64 (((x14:Nat):Int) + 1)))]) (OC.e a15) (OC.sz a15) (OC.g a15))))))))))))))))))))))))))))))))))))))))))))))))))))):=by kernel_rfl
def N92q:FnHint:=hAt [(2,3,hRS),(2,7,hInt),(2,8,hEl 37 4),(2,9,hElTm),(3,3,hRS),(3,7,hInt),(3,9,hEl 37 4),(3,10,hEl 37 4),(4,3,hInt),(4,7,hOb),(5,3,hInt),(5,9,hInt),(5,14,hRS),(6,5,hRS),(6,9,hInt),(6,13,hRS),(6,18,hRS),(6,20,hEl 37 4),(6,21,hEl 37 4),(6,24,hOb),(6,27,hOb)]
theorem vc92 (B:Nat) (w0:World) (G:Nat -> AV) (σ:State) (id off:Nat) (Q:AV -> State -> Prop):(bodyC (EV B w0 G) (H0 (EV B w0 G)) (fun _ _ _ _ => False) annA N92q 92 [.ptr id off] σ Q) =
 ((∃ a0:OC,(((State.objs σ (id)) = (AObj.cells (OC.cs a0) (OC.e a0) (OC.sz a0) (OC.g a0)))/\
 (((((off) + 0):Nat) < (List.length (OC.cs a0)))/\
 (∃ x1:RS,(((List.getD (OC.cs a0) (off + 0) AV.undef) = (AV.rslice (RS.id x1) 0 (RS.n x1)))/\
 (∃ a2:OC,(((State.objs σ (id)) = (AObj.cells (OC.cs a2) (OC.e a2) (OC.sz a2) (OC.g a2)))/\
 (((((off) + 1):Nat) < (List.length (OC.cs a2)))/\
 (∃ x3:Nat,(((List.getD (OC.cs a2) (off + 1) AV.undef) = (AV.int .i64 ((x3:Nat):Int)))/\
 (∃ a4:OE,(((State.objs σ (RS.id x1)) = (AObj.cells (OE.cs a4) 37 4 (OE.g a4)))/\
 ((((0:Int) <= ((x3:Nat):Int))/\
 ((((x3:Nat):Int):Int) < ((RS.n x1:Nat):Int)))/\
 (∃ a5:OE,(((State.objs σ (RS.id x1)) = (AObj.cells (OE.cs a5) 37 4 (OE.g a5)))/\
 ((((((0 + (Int.toNat ((x3:Nat):Int))) * 4) + 4):Nat) <= (List.length (OE.cs a5)))/\
 (∃ x6:T,(((AV.agg (List.take 4 (List.drop ((0 + (Int.toNat ((x3:Nat):Int))) * 4) (OE.cs a5)))) = (AV.agg [(AV.int .i64 (T.k x6)),(AV.int .i64 (T.n x6)),(AV.str (T.s x6)),(AV.slice 4 (tcellL (T.l x6)) Cap.any)]))/\
 ((Rf (TV.v (AV.ptr (id) (off))))/\
 ((Rf (TV.v (AV.ptr (id) (off))))/\
 ((Rf (TV.v (AV.ptr (id) ((off) + 0))))/\
 ((∃ a7:OC,(((State.objs σ (id)) = (AObj.cells (OC.cs a7) (OC.e a7) (OC.sz a7) (OC.g a7)))/\
 (((((off) + 0):Nat) < (List.length (OC.cs a7)))/\
 (∃ x8:RS,(((List.getD (OC.cs a7) (off + 0) AV.undef) = (AV.rslice (RS.id x8) 0 (RS.n x8)))/\
 ((TV.v (AV.rslice (RS.id x8) 0 (RS.n x8))) = (TV.v (AV.rslice (RS.id x1) 0 (RS.n x1)))))))))/\
 ((Rf (TV.v (AV.ptr (id) (off))))/\
 ((Rf (TV.v (AV.ptr (id) (off))))/\
 ((Rf (TV.v (AV.ptr (id) ((off) + 1))))/\
 ((∃ a7:OC,(((State.objs σ (id)) = (AObj.cells (OC.cs a7) (OC.e a7) (OC.sz a7) (OC.g a7)))/\
 (((((off) + 1):Nat) < (List.length (OC.cs a7)))/\
 (∃ x8:Nat,(((List.getD (OC.cs a7) (off + 1) AV.undef) = (AV.int .i64 ((x8:Nat):Int)))/\
 ((TV.v (AV.int .i64 ((x8:Nat):Int))) = (TV.v (AV.int .i64 ((x3:Nat):Int)))))))))/\
 ((∃ a7:OE,(((State.objs σ (RS.id x1)) = (AObj.cells (OE.cs a7) 37 4 (OE.g a7)))/\
 ((((0:Int) <= ((x3:Nat):Int))/\
 ((((x3:Nat):Int):Int) < ((RS.n x1:Nat):Int)))/\
 (Rf (TV.v (AV.ptr (RS.id x1) ((0 + (Int.toNat ((x3:Nat):Int))) * 4)))))))/\
 ((∃ a7:OE,(((State.objs σ (RS.id x1)) = (AObj.cells (OE.cs a7) 37 4 (OE.g a7)))/\
 ((((((0 + (Int.toNat ((x3:Nat):Int))) * 4) + 4):Nat) <= (List.length (OE.cs a7)))/\
 (∃ x8:T,(((AV.agg (List.take 4 (List.drop ((0 + (Int.toNat ((x3:Nat):Int))) * 4) (OE.cs a7)))) = (AV.agg [(AV.int .i64 (T.k x8)),(AV.int .i64 (T.n x8)),(AV.str (T.s x8)),(AV.slice 4 (tcellL (T.l x8)) Cap.any)]))/\
 ((TV.v (AV.agg [(AV.int .i64 (T.k x8)),(AV.int .i64 (T.n x8)),(AV.str (T.s x8)),(AV.slice 4 (tcellL (T.l x8)) Cap.any)])) = (TV.v (AV.agg [(AV.int .i64 (T.k x6)),(AV.int .i64 (T.n x6)),(AV.str (T.s x6)),(AV.slice 4 (tcellL (T.l x6)) Cap.any)]))))))))/\
 (∃ a7:OC,(((State.objs σ (id)) = (AObj.cells (OC.cs a7) (OC.e a7) (OC.sz a7) (OC.g a7)))/\
 (((((off) + 0):Nat) < (List.length (OC.cs a7)))/\
 (∃ x8:RS,(((List.getD (OC.cs a7) (off + 0) AV.undef) = (AV.rslice (RS.id x8) 0 (RS.n x8)))/\
 (∃ a9:OC,(((State.objs σ (id)) = (AObj.cells (OC.cs a9) (OC.e a9) (OC.sz a9) (OC.g a9)))/\
 (((((off) + 1):Nat) < (List.length (OC.cs a9)))/\
 (∃ x10:Nat,(((List.getD (OC.cs a9) (off + 1) AV.undef) = (AV.int .i64 ((x10:Nat):Int)))/\
 (∃ a11:OE,(((State.objs σ (RS.id x8)) = (AObj.cells (OE.cs a11) 37 4 (OE.g a11)))/\
 ((((0:Int) <= ((x10:Nat):Int))/\
 ((((x10:Nat):Int):Int) < ((RS.n x8:Nat):Int)))/\
 (∃ a12:OE,(((State.objs σ (RS.id x8)) = (AObj.cells (OE.cs a12) 37 4 (OE.g a12)))/\
 ((((((0 + (Int.toNat ((x10:Nat):Int))) * 4) + 4):Nat) <= (List.length (OE.cs a12)))/\
 (∃ a13:OC,(((State.objs (State.set σ (RS.id x8) (AObj.cells (asplice (OE.cs a12) ((0 + (Int.toNat ((x10:Nat):Int))) * 4) [(AV.int .i64 0),(AV.int .i64 0),(AV.str ⟨⟨[]⟩⟩),AV.nilslice]) 37 4 (OE.g a12))) (id)) = (AObj.cells (OC.cs a13) (OC.e a13) (OC.sz a13) (OC.g a13)))/\
 (((((off) + 1):Nat) < (List.length (OC.cs a13)))/\
 (∃ x14:Nat,(((List.getD (OC.cs a13) (off + 1) AV.undef) = (AV.int .i64 ((x14:Nat):Int)))/\
 (∃ a15:OC,(((State.objs (State.set σ (RS.id x8) (AObj.cells (asplice (OE.cs a12) ((0 + (Int.toNat ((x10:Nat):Int))) * 4) [(AV.int .i64 0),(AV.int .i64 0),(AV.str ⟨⟨[]⟩⟩),AV.nilslice]) 37 4 (OE.g a12))) (id)) = (AObj.cells (OC.cs a15) (OC.e a15) (OC.sz a15) (OC.g a15)))/\
 ((((((off) + 1) + 1):Nat) <= (List.length (OC.cs a15)))/\
 (∃ a16:OC,(((State.objs (State.set (State.set σ (RS.id x8) (AObj.cells (asplice (OE.cs a12) ((0 + (Int.toNat ((x10:Nat):Int))) * 4) [(AV.int .i64 0),(AV.int .i64 0),(AV.str ⟨⟨[]⟩⟩),AV.nilslice]) 37 4 (OE.g a12))) (id) (AObj.cells (asplice (OC.cs a15) ((off) + 1) [(AV.int .i64 (IntKind.wrap .i64 (((x14:Nat):Int) + 1)))]) (OC.e a15) (OC.sz a15) (OC.g a15))) (id)) = (AObj.cells (OC.cs a16) (OC.e a16) (OC.sz a16) (OC.g a16)))/\
 (((((off) + 1):Nat) < (List.length (OC.cs a16)))/\
 (∃ x17:Nat,(((List.getD (OC.cs a16) (off + 1) AV.undef) = (AV.int .i64 ((x17:Nat):Int)))/\
 (bcase (decide ((((x17:Nat):Int):Int) > 32))
 (∃ a18:OC,(((State.objs (State.set (State.set σ (RS.id x8) (AObj.cells (asplice (OE.cs a12) ((0 + (Int.toNat ((x10:Nat):Int))) * 4) [(AV.int .i64 0),(AV.int .i64 0),(AV.str ⟨⟨[]⟩⟩),AV.nilslice]) 37 4 (OE.g a12))) (id) (AObj.cells (asplice (OC.cs a15) ((off) + 1) [(AV.int .i64 (IntKind.wrap .i64 (((x14:Nat):Int) + 1)))]) (OC.e a15) (OC.sz a15) (OC.g a15))) (id)) = (AObj.cells (OC.cs a18) (OC.e a18) (OC.sz a18) (OC.g a18)))/\
 (((((off) + 1):Nat) < (List.length (OC.cs a18)))/\
 (∃ x19:Nat,(((List.getD (OC.cs a18) (off + 1) AV.undef) = (AV.int .i64 ((x19:Nat):Int)))/\
 (∃ a20:OC,(((State.objs (State.set (State.set σ (RS.id x8) (AObj.cells (asplice (OE.cs a12) ((0 + (Int.toNat ((x10:Nat):Int))) * 4) [(AV.int .i64 0),(AV.int .i64 0),(AV.str ⟨⟨[]⟩⟩),AV.nilslice]) 37 4 (OE.g a12))) (id) (AObj.cells (asplice (OC.cs a15) ((off) + 1) [(AV.int .i64 (IntKind.wrap .i64 (((x14:Nat):Int) + 1)))]) (OC.e a15) (OC.sz a15) (OC.g a15))) (id)) = (AObj.cells (OC.cs a20) (OC.e a20) (OC.sz a20) (OC.g a20)))/\
 (((((off) + 0):Nat) < (List.length (OC.cs a20)))/\
 (∃ x21:RS,(((List.getD (OC.cs a20) (off + 0) AV.undef) = (AV.rslice (RS.id x21) 0 (RS.n x21)))/\
 (bcase (decide (((IntKind.wrap .i64 (2 * ((x19:Nat):Int))):Int) > ((RS.n x21:Nat):Int)))
 (∃ a22:OC,(((State.objs (State.set (State.set σ (RS.id x8) (AObj.cells (asplice (OE.cs a12) ((0 + (Int.toNat ((x10:Nat):Int))) * 4) [(AV.int .i64 0),(AV.int .i64 0),(AV.str ⟨⟨[]⟩⟩),AV.nilslice]) 37 4 (OE.g a12))) (id) (AObj.cells (asplice (OC.cs a15) ((off) + 1) [(AV.int .i64 (IntKind.wrap .i64 (((x14:Nat):Int) + 1)))]) (OC.e a15) (OC.sz a15) (OC.g a15))) (id)) = (AObj.cells (OC.cs a22) (OC.e a22) (OC.sz a22) (OC.g a22)))/\
 (((((off) + 0):Nat) < (List.length (OC.cs a22)))/\
 (∃ x23:RS,(((List.getD (OC.cs a22) (off + 0) AV.undef) = (AV.rslice (RS.id x23) 0 (RS.n x23)))/\
 (∃ a24:OC,(((State.objs (State.set (State.set σ (RS.id x8) (AObj.cells (asplice (OE.cs a12) ((0 + (Int.toNat ((x10:Nat):Int))) * 4) [(AV.int .i64 0),(AV.int .i64 0),(AV.str ⟨⟨[]⟩⟩),AV.nilslice]) 37 4 (OE.g a12))) (id) (AObj.cells (asplice (OC.cs a15) ((off) + 1) [(AV.int .i64 (IntKind.wrap .i64 (((x14:Nat):Int) + 1)))]) (OC.e a15) (OC.sz a15) (OC.g a15))) (id)) = (AObj.cells (OC.cs a24) (OC.e a24) (OC.sz a24) (OC.g a24)))/\
 (((((off) + 1):Nat) < (List.length (OC.cs a24)))/\
 (∃ x25:Nat,(((List.getD (OC.cs a24) (off + 1) AV.undef) = (AV.int .i64 ((x25:Nat):Int)))/\
 (∃ a26:OC,(((State.objs (State.set (State.set σ (RS.id x8) (AObj.cells (asplice (OE.cs a12) ((0 + (Int.toNat ((x10:Nat):Int))) * 4) [(AV.int .i64 0),(AV.int .i64 0),(AV.str ⟨⟨[]⟩⟩),AV.nilslice]) 37 4 (OE.g a12))) (id) (AObj.cells (asplice (OC.cs a15) ((off) + 1) [(AV.int .i64 (IntKind.wrap .i64 (((x14:Nat):Int) + 1)))]) (OC.e a15) (OC.sz a15) (OC.g a15))) (id)) = (AObj.cells (OC.cs a26) (OC.e a26) (OC.sz a26) (OC.g a26)))/\
 (((((off) + 0):Nat) < (List.length (OC.cs a26)))/\
 (∃ x27:RS,(((List.getD (OC.cs a26) (off + 0) AV.undef) = (AV.rslice (RS.id x27) 0 (RS.n x27)))/\
 (∃ a28:OC,(((State.objs (State.set (State.set σ (RS.id x8) (AObj.cells (asplice (OE.cs a12) ((0 + (Int.toNat ((x10:Nat):Int))) * 4) [(AV.int .i64 0),(AV.int .i64 0),(AV.str ⟨⟨[]⟩⟩),AV.nilslice]) 37 4 (OE.g a12))) (id) (AObj.cells (asplice (OC.cs a15) ((off) + 1) [(AV.int .i64 (IntKind.wrap .i64 (((x14:Nat):Int) + 1)))]) (OC.e a15) (OC.sz a15) (OC.g a15))) (id)) = (AObj.cells (OC.cs a28) (OC.e a28) (OC.sz a28) (OC.g a28)))/\
 (((((off) + 0):Nat) < (List.length (OC.cs a28)))/\
 (∃ x29:RS,(((List.getD (OC.cs a28) (off + 0) AV.undef) = (AV.rslice (RS.id x29) 0 (RS.n x29)))/\
 (∃ a30:OE,(((State.objs (State.set (State.set σ (RS.id x8) (AObj.cells (asplice (OE.cs a12) ((0 + (Int.toNat ((x10:Nat):Int))) * 4) [(AV.int .i64 0),(AV.int .i64 0),(AV.str ⟨⟨[]⟩⟩),AV.nilslice]) 37 4 (OE.g a12))) (id) (AObj.cells (asplice (OC.cs a15) ((off) + 1) [(AV.int .i64 (IntKind.wrap .i64 (((x14:Nat):Int) + 1)))]) (OC.e a15) (OC.sz a15) (OC.g a15))) (RS.id x23)) = (AObj.cells (OE.cs a30) 37 4 (OE.g a30)))/\
 ((((0:Int) <= ((RS.n x29:Nat):Int))/\
 ((((RS.n x29:Nat):Int):Int) <= ((RS.n x23:Nat):Int)))/\
 ((((0:Int) <= ((RS.n x27:Nat):Int))/\
 ((((RS.n x27:Nat):Int):Int) <= (((Int.toNat ((RS.n x29:Nat):Int)):Nat):Int)))/\
 ((((0:Int) <= ((x25:Nat):Int))/\
 ((((x25:Nat):Int):Int) <= (((Int.toNat ((RS.n x27:Nat):Int)):Nat):Int)))/\
 (∃ a31:OE,(((State.objs (State.set (State.set σ (RS.id x8) (AObj.cells (asplice (OE.cs a12) ((0 + (Int.toNat ((x10:Nat):Int))) * 4) [(AV.int .i64 0),(AV.int .i64 0),(AV.str ⟨⟨[]⟩⟩),AV.nilslice]) 37 4 (OE.g a12))) (id) (AObj.cells (asplice (OC.cs a15) ((off) + 1) [(AV.int .i64 (IntKind.wrap .i64 (((x14:Nat):Int) + 1)))]) (OC.e a15) (OC.sz a15) (OC.g a15))) (RS.id x23)) = (AObj.cells (OE.cs a31) 37 4 (OE.g a31)))/\
 ((((((0 + (Int.toNat ((x25:Nat):Int))) + ((Int.toNat ((RS.n x27:Nat):Int)) - (Int.toNat ((x25:Nat):Int)))) * 4):Nat) <= (List.length (OE.cs a31)))/\
 (bcase (List.isEmpty (chunk (Option.some 4) (List.take (((Int.toNat ((RS.n x27:Nat):Int)) - (Int.toNat ((x25:Nat):Int))) * 4) (List.drop ((0 + (Int.toNat ((x25:Nat):Int))) * 4) (OE.cs a31))) ((Int.toNat ((RS.n x27:Nat):Int)) - (Int.toNat ((x25:Nat):Int)))))
 ((Rf (TV.v (AV.ptr (id) (off))))/\
 ((Rf (TV.v (AV.ptr (id) (off))))/\
 (∃ a32:OC,(((State.objs (State.set (State.set σ (RS.id x8) (AObj.cells (asplice (OE.cs a12) ((0 + (Int.toNat ((x10:Nat):Int))) * 4) [(AV.int .i64 0),(AV.int .i64 0),(AV.str ⟨⟨[]⟩⟩),AV.nilslice]) 37 4 (OE.g a12))) (id) (AObj.cells (asplice (OC.cs a15) ((off) + 1) [(AV.int .i64 (IntKind.wrap .i64 (((x14:Nat):Int) + 1)))]) (OC.e a15) (OC.sz a15) (OC.g a15))) (id)) = (AObj.cells (OC.cs a32) (OC.e a32) (OC.sz a32) (OC.g a32)))/\
 ((((((off) + 0) + 1):Nat) <= (List.length (OC.cs a32)))/\
 ((Rf (TV.v (AV.ptr (id) (off))))/\
 (∃ a33:OC,(((State.objs (State.set (State.set (State.set σ (RS.id x8) (AObj.cells (asplice (OE.cs a12) ((0 + (Int.toNat ((x10:Nat):Int))) * 4) [(AV.int .i64 0),(AV.int .i64 0),(AV.str ⟨⟨[]⟩⟩),AV.nilslice]) 37 4 (OE.g a12))) (id) (AObj.cells (asplice (OC.cs a15) ((off) + 1) [(AV.int .i64 (IntKind.wrap .i64 (((x14:Nat):Int) + 1)))]) (OC.e a15) (OC.sz a15) (OC.g a15))) (id) (AObj.cells (asplice (OC.cs a32) ((off) + 0) [AV.nilslice]) (OC.e a32) (OC.sz a32) (OC.g a32))) (id)) = (AObj.cells (OC.cs a33) (OC.e a33) (OC.sz a33) (OC.g a33)))/\
 ((((((off) + 1) + 1):Nat) <= (List.length (OC.cs a33)))/\
 (Q (AV.agg [(AV.int .i64 (T.k x6)),(AV.int .i64 (T.n x6)),(AV.str (T.s x6)),(AV.slice 4 (tcellL (T.l x6)) Cap.any)]) (State.set (State.set (State.set (State.set σ (RS.id x8) (AObj.cells (asplice (OE.cs a12) ((0 + (Int.toNat ((x10:Nat):Int))) * 4) [(AV.int .i64 0),(AV.int .i64 0),(AV.str ⟨⟨[]⟩⟩),AV.nilslice]) 37 4 (OE.g a12))) (id) (AObj.cells (asplice (OC.cs a15) ((off) + 1) [(AV.int .i64 (IntKind.wrap .i64 (((x14:Nat):Int) + 1)))]) (OC.e a15) (OC.sz a15) (OC.g a15))) (id) (AObj.cells (asplice (OC.cs a32) ((off) + 0) [AV.nilslice]) (OC.e a32) (OC.sz a32) (OC.g a32))) (id) (AObj.cells (asplice (OC.cs a33) ((off) + 1) [(AV.int .i64 0)]) (OC.e a33) (OC.sz a33) (OC.g a33)))))))))))))
 ((((((List.length (chunk (Option.some 4) (List.take (((Int.toNat ((RS.n x27:Nat):Int)) - (Int.toNat ((x25:Nat):Int))) * 4) (List.drop ((0 + (Int.toNat ((x25:Nat):Int))) * 4) (OE.cs a31))) ((Int.toNat ((RS.n x27:Nat):Int)) - (Int.toNat ((x25:Nat):Int))))) * 56):Nat) <= 140737488355328)/\
 (((List.length (chunk (Option.some 4) (List.take (((Int.toNat ((RS.n x27:Nat):Int)) - (Int.toNat ((x25:Nat):Int))) * 4) (List.drop ((0 + (Int.toNat ((x25:Nat):Int))) * 4) (OE.cs a31))) ((Int.toNat ((RS.n x27:Nat):Int)) - (Int.toNat ((x25:Nat):Int))))):Nat) <= 4611686018427387904))/\
 ((Rf (TV.v (AV.ptr (id) (off))))/\
 ((Rf (TV.v (AV.ptr (id) (off))))/\
 (∃ a32:OC,(((State.objs (State.new (State.set (State.set σ (RS.id x8) (AObj.cells (asplice (OE.cs a12) ((0 + (Int.toNat ((x10:Nat):Int))) * 4) [(AV.int .i64 0),(AV.int .i64 0),(AV.str ⟨⟨[]⟩⟩),AV.nilslice]) 37 4 (OE.g a12))) (id) (AObj.cells (asplice (OC.cs a15) ((off) + 1) [(AV.int .i64 (IntKind.wrap .i64 (((x14:Nat):Int) + 1)))]) (OC.e a15) (OC.sz a15) (OC.g a15))) (AObj.cells (flat (chunk (Option.some 4) (List.take (((Int.toNat ((RS.n x27:Nat):Int)) - (Int.toNat ((x25:Nat):Int))) * 4) (List.drop ((0 + (Int.toNat ((x25:Nat):Int))) * 4) (OE.cs a31))) ((Int.toNat ((RS.n x27:Nat):Int)) - (Int.toNat ((x25:Nat):Int))))) 37 4 true)) (id)) = (AObj.cells (OC.cs a32) (OC.e a32) (OC.sz a32) (OC.g a32)))/\
 ((((((off) + 0) + 1):Nat) <= (List.length (OC.cs a32)))/\
 ((Rf (TV.v (AV.ptr (id) (off))))/\
 (∃ a33:OC,(((State.objs (State.set (State.new (State.set (State.set σ (RS.id x8) (AObj.cells (asplice (OE.cs a12) ((0 + (Int.toNat ((x10:Nat):Int))) * 4) [(AV.int .i64 0),(AV.int .i64 0),(AV.str ⟨⟨[]⟩⟩),AV.nilslice]) 37 4 (OE.g a12))) (id) (AObj.cells (asplice (OC.cs a15) ((off) + 1) [(AV.int .i64 (IntKind.wrap .i64 (((x14:Nat):Int) + 1)))]) (OC.e a15) (OC.sz a15) (OC.g a15))) (AObj.cells (flat (chunk (Option.some 4) (List.take (((Int.toNat ((RS.n x27:Nat):Int)) - (Int.toNat ((x25:Nat):Int))) * 4) (List.drop ((0 + (Int.toNat ((x25:Nat):Int))) * 4) (OE.cs a31))) ((Int.toNat ((RS.n x27:Nat):Int)) - (Int.toNat ((x25:Nat):Int))))) 37 4 true)) (id) (AObj.cells (asplice (OC.cs a32) ((off) + 0) [(AV.rslice (State.next σ) 0 (List.length (chunk (Option.some 4) (List.take (((Int.toNat ((RS.n x27:Nat):Int)) - (Int.toNat ((x25:Nat):Int))) * 4) (List.drop ((0 + (Int.toNat ((x25:Nat):Int))) * 4) (OE.cs a31))) ((Int.toNat ((RS.n x27:Nat):Int)) - (Int.toNat ((x25:Nat):Int))))))]) (OC.e a32) (OC.sz a32) (OC.g a32))) (id)) = (AObj.cells (OC.cs a33) (OC.e a33) (OC.sz a33) (OC.g a33)))/\
 ((((((off) + 1) + 1):Nat) <= (List.length (OC.cs a33)))/\
 (Q (AV.agg [(AV.int .i64 (T.k x6)),(AV.int .i64 (T.n x6)),(AV.str (T.s x6)),(AV.slice 4 (tcellL (T.l x6)) Cap.any)]) (State.set (State.set (State.new (State.set (State.set σ (RS.id x8) (AObj.cells (asplice (OE.cs a12) ((0 + (Int.toNat ((x10:Nat):Int))) * 4) [(AV.int .i64 0),(AV.int .i64 0),(AV.str ⟨⟨[]⟩⟩),AV.nilslice]) 37 4 (OE.g a12))) (id) (AObj.cells (asplice (OC.cs a15) ((off) + 1) [(AV.int .i64 (IntKind.wrap .i64 (((x14:Nat):Int) + 1)))]) (OC.e a15) (OC.sz a15) (OC.g a15))) (AObj.cells (flat (chunk (Option.some 4) (List.take (((Int.toNat ((RS.n x27:Nat):Int)) - (Int.toNat ((x25:Nat):Int))) * 4) (List.drop ((0 + (Int.toNat ((x25:Nat):Int))) * 4) (OE.cs a31))) ((Int.toNat ((RS.n x27:Nat):Int)) - (Int.toNat ((x25:Nat):Int))))) 37 4 true)) (id) (AObj.cells (asplice (OC.cs a32) ((off) + 0) [(AV.rslice (State.next σ) 0 (List.length (chunk (Option.some 4) (List.take (((Int.toNat ((RS.n x27:Nat):Int)) - (Int.toNat ((x25:Nat):Int))) * 4) (List.drop ((0 + (Int.toNat ((x25:Nat):Int))) * 4) (OE.cs a31))) ((Int.toNat ((RS.n x27:Nat):Int)) - (Int.toNat ((x25:Nat):Int))))))]) (OC.e a32) (OC.sz a32) (OC.g a32))) (id) (AObj.cells (asplice (OC.cs a33) ((off) + 1) [(AV.int .i64 0)]) (OC.e a33) (OC.sz a33) (OC.g a33)))))))))))))))))))))))))))))))))))))))))))
 (Q (AV.agg [(AV.int .i64 (T.k x6)),(AV.int .i64 (T.n x6)),(AV.str (T.s x6)),(AV.slice 4 (tcellL (T.l x6)) Cap.any)]) (State.set (State.set σ (RS.id x8) (AObj.cells (asplice (OE.cs a12) ((0 + (Int.toNat ((x10:Nat):Int))) * 4) [(AV.int .i64 0),(AV.int .i64 0),(AV.str ⟨⟨[]⟩⟩),AV.nilslice]) 37 4 (OE.g a12))) (id) (AObj.cells (asplice (OC.cs a15) ((off) + 1) [(AV.int .i64 (IntKind.wrap .i64 (((x14:Nat):Int) + 1)))]) (OC.e a15) (OC.sz a15) (OC.g a15)))))))))))))))
 (Q (AV.agg [(AV.int .i64 (T.k x6)),(AV.int .i64 (T.n x6)),(AV.str (T.s x6)),(AV.slice 4 (tcellL (T.l x6)) Cap.any)]) (State.set (State.set σ (RS.id x8) (AObj.cells (asplice (OE.cs a12) ((0 + (Int.toNat ((x10:Nat):Int))) * 4) [(AV.int .i64 0),(AV.int .i64 0),(AV.str ⟨⟨[]⟩⟩),AV.nilslice]) 37 4 (OE.g a12))) (id) (AObj.cells (asplice (OC.cs a15) ((off) + 1) [(AV.int .i64 (IntKind.wrap .i64 (((x14:Nat):Int) + 1)))]) (OC.e a15) (OC.sz a15) (OC.g a15))))))))))))))))))))))))))))))))))))))))))))))))))))))))))))))):=by kernel_rfl
def N88n:FnHint:=hAt [(1,3,hNil),(1,8,hInt)]
def N88r:FnHint:=hAt [(1,3,hRS),(1,8,hInt)]
theorem vc88n (B:Nat) (w0:World) (G:Nat -> AV) (σ:State) (id off:Nat) (Q:AV -> State -> Prop):(bodyC (EV B w0 G) (H0 (EV B w0 G)) (fun _ _ _ _ => False) annA N88n 88 [.ptr id off] σ Q) =
 ((∃ a0:OC,(((State.objs σ (id)) = (AObj.cells (OC.cs a0) (OC.e a0) (OC.sz a0) (OC.g a0)))/\
 (((((off) + 0):Nat) < (List.length (OC.cs a0)))/\
 (∃ x1:Unit,(((List.getD (OC.cs a0) (off + 0) AV.undef) = AV.nilslice)/\
 (∃ a2:OC,(((State.objs σ (id)) = (AObj.cells (OC.cs a2) (OC.e a2) (OC.sz a2) (OC.g a2)))/\
 (((((off) + 1):Nat) < (List.length (OC.cs a2)))/\
 (∃ x3:Nat,(((List.getD (OC.cs a2) (off + 1) AV.undef) = (AV.int .i64 ((x3:Nat):Int)))/\
 (Q (AV.int .i64 (IntKind.wrap .i64 (0 - ((x3:Nat):Int)))) σ)))))))))))):=by kernel_rfl
theorem vc88r (B:Nat) (w0:World) (G:Nat -> AV) (σ:State) (id off:Nat) (Q:AV -> State -> Prop):(bodyC (EV B w0 G) (H0 (EV B w0 G)) (fun _ _ _ _ => False) annA N88r 88 [.ptr id off] σ Q) =
 ((∃ a0:OC,(((State.objs σ (id)) = (AObj.cells (OC.cs a0) (OC.e a0) (OC.sz a0) (OC.g a0)))/\
 (((((off) + 0):Nat) < (List.length (OC.cs a0)))/\
 (∃ x1:RS,(((List.getD (OC.cs a0) (off + 0) AV.undef) = (AV.rslice (RS.id x1) 0 (RS.n x1)))/\
 (∃ a2:OC,(((State.objs σ (id)) = (AObj.cells (OC.cs a2) (OC.e a2) (OC.sz a2) (OC.g a2)))/\
 (((((off) + 1):Nat) < (List.length (OC.cs a2)))/\
 (∃ x3:Nat,(((List.getD (OC.cs a2) (off + 1) AV.undef) = (AV.int .i64 ((x3:Nat):Int)))/\
 (Q (AV.int .i64 (IntKind.wrap .i64 (((RS.n x1:Nat):Int) - ((x3:Nat):Int)))) σ)))))))))))):=by kernel_rfl
theorem vc90n (B:Nat) (w0:World) (G:Nat -> AV) (σ:State) (id off:Nat) (Q:AV -> State -> Prop):(bodyC (EV B w0 G) (H0 (EV B w0 G)) (fun _ _ _ _ => False) annA N88n 90 [.ptr id off] σ Q) =
 ((∃ a0:OC,(((State.objs σ (id)) = (AObj.cells (OC.cs a0) (OC.e a0) (OC.sz a0) (OC.g a0)))/\
 (((((off) + 0):Nat) < (List.length (OC.cs a0)))/\
 (∃ x1:Unit,(((List.getD (OC.cs a0) (off + 0) AV.undef) = AV.nilslice)/\
 (∃ a2:OC,(((State.objs σ (id)) = (AObj.cells (OC.cs a2) (OC.e a2) (OC.sz a2) (OC.g a2)))/\
 (((((off) + 1):Nat) < (List.length (OC.cs a2)))/\
 (∃ x3:Nat,(((List.getD (OC.cs a2) (off + 1) AV.undef) = (AV.int .i64 ((x3:Nat):Int)))/\
 (Q (AV.int .i64 (IntKind.wrap .i64 (0 - ((x3:Nat):Int)))) σ)))))))))))):=by kernel_rfl
theorem vc90r (B:Nat) (w0:World) (G:Nat -> AV) (σ:State) (id off:Nat) (Q:AV -> State -> Prop):(bodyC (EV B w0 G) (H0 (EV B w0 G)) (fun _ _ _ _ => False) annA N88r 90 [.ptr id off] σ Q) =
 ((∃ a0:OC,(((State.objs σ (id)) = (AObj.cells (OC.cs a0) (OC.e a0) (OC.sz a0) (OC.g a0)))/\
 (((((off) + 0):Nat) < (List.length (OC.cs a0)))/\
 (∃ x1:RS,(((List.getD (OC.cs a0) (off + 0) AV.undef) = (AV.rslice (RS.id x1) 0 (RS.n x1)))/\
 (∃ a2:OC,(((State.objs σ (id)) = (AObj.cells (OC.cs a2) (OC.e a2) (OC.sz a2) (OC.g a2)))/\
 (((((off) + 1):Nat) < (List.length (OC.cs a2)))/\
 (∃ x3:Nat,(((List.getD (OC.cs a2) (off + 1) AV.undef) = (AV.int .i64 ((x3:Nat):Int)))/\
 (Q (AV.int .i64 (IntKind.wrap .i64 (((RS.n x1:Nat):Int) - ((x3:Nat):Int)))) σ)))))))))))):=by kernel_rfl
end Go.V
/- Reading and writing objects that are told: for simp. -/
set_option maxRecDepth 100000
namespace Go.V
open Go Go.Proofs

theorem ex_OC {p:OC -> Prop}:(∃ x:OC,p x) ↔ ∃ cs e sz g,p ⟨cs,e,sz,g⟩:=⟨fun ⟨⟨a,b,c,d⟩,h⟩ => ⟨a,b,c,d,h⟩,fun ⟨a,b,c,d,h⟩ => ⟨⟨a,b,c,d⟩,h⟩⟩
theorem ex_OE {p:OE -> Prop}:(∃ x:OE,p x) ↔ ∃ cs g,p ⟨cs,g⟩:=⟨fun ⟨⟨a,b⟩,h⟩ => ⟨a,b,h⟩,fun ⟨a,b,h⟩ => ⟨⟨a,b⟩,h⟩⟩
theorem ex_RS {p:RS -> Prop}:(∃ x:RS,p x) ↔ ∃ id n,p ⟨id,n⟩:=⟨fun ⟨⟨a,b⟩,h⟩ => ⟨a,b,h⟩,fun ⟨a,b,h⟩ => ⟨⟨a,b⟩,h⟩⟩
theorem objs_set {σ:State} {i j:Nat} {o:AObj}:(σ.set i o).objs j = if j = i then o else σ.objs j:=rfl
theorem objs_new {σ:State} {j:Nat} {o:AObj}:(σ.new o).objs j = if j = σ.next then o else σ.objs j:=rfl
theorem next_set {σ:State} {i:Nat} {o:AObj}:(σ.set i o).next = σ.next:=rfl
theorem next_new {σ:State} {o:AObj}:(σ.new o).next = σ.next + 1:=rfl
theorem getD_mid {A B:List AV} {x d:AV}:(A ++ x :: B).getD A.length d = x:=by simp [List.getD]
theorem getD_mid1 {A B:List AV} {x y d:AV}:(A ++ x :: y :: B).getD (A.length + 1) d = y:=by simp [List.getD]
theorem asplice_mid {A B:List AV} {x y:AV}:asplice (A ++ x :: B) A.length [y] = A ++ y :: B:=by
 unfold asplice
 rw [List.take_left' rfl,show A.length + [y].length = (A ++ [x]).length by simp,show A ++ x :: B = (A ++ [x]) ++ B by simp,List.drop_left' rfl]
 simp
theorem asplice_mid1 {A B:List AV} {x y z:AV}:asplice (A ++ x :: y :: B) (A.length + 1) [z] = A ++ x :: z :: B:=by
 have:=asplice_mid (A:=A ++ [x]) (B:=B) (x:=y) (y:=z)
 simpa using this
theorem int_inj {a b:Nat}:(AV.int .i64 (a:Int) = AV.int .i64 (b:Int)) ↔ a = b:=by
 constructor
 ·intro h; cases h; rfl
 ·intro h; rw [h]

theorem lt_mid {A B:List AV} {x:AV}:(A.length < (A ++ x :: B).length) ↔ True:=by simp
theorem lt_mid1 {A B:List AV} {x y:AV}:(A.length + 1 < (A ++ x :: y :: B).length) ↔ True:=by simp
theorem le_mid {A B:List AV} {x:AV}:(A.length + 1 <= (A ++ x :: B).length) ↔ True:=by simp
theorem le_mid1 {A B:List AV} {x y:AV}:(A.length + 1 + 1 <= (A ++ x :: y :: B).length) ↔ True:=by simp; omega
theorem nat_nonneg (n:Nat):((0:Int) <= (n:Int)) ↔ True:=by simp
theorem nat_le_self (n:Nat):((n:Int) <= (n:Int)) ↔ True:=by simp
theorem tm_inj {a b:T}:(AV.agg [.int .i64 a.k,.int .i64 a.n,.str a.s,.slice 4 (tcellL a.l) .any] = AV.agg [.int .i64 b.k,.int .i64 b.n,.str b.s,.slice 4 (tcellL b.l) .any]) ↔ a = b:=by
 constructor
 ·intro h
  obtain ⟨k,n,s,l⟩:=a
  obtain ⟨k',n',s',l'⟩:=b
  have inj:∀ (l l':List T),tcellL l = tcellL l' -> l = l':=by
   have key:∀ N:Nat,(∀ t t':T,SizeOf.sizeOf t < N -> tcell t = tcell t' -> t = t') /\ (∀ l l':List T,SizeOf.sizeOf l < N -> tcellL l = tcellL l' -> l = l'):=by
    intro N
    induction N with
    | zero => exact ⟨fun t t' h => by omega,fun l l' h => by omega⟩
    | succ N ih =>
     refine ⟨fun t t' h e => ?_,fun l l' h e => ?_⟩
     ·obtain ⟨k,n,s,l⟩:=t
      obtain ⟨k',n',s',l'⟩:=t'
      simp only [tcell,AV.agg.injEq,List.cons.injEq,AV.int.injEq,AV.str.injEq,AV.slice.injEq,true_and,and_true] at e
      obtain ⟨rfl,rfl,rfl,e⟩:=e
      rw [ih.2 l l' (by simp at h; omega) e]
     ·cases l with
      | nil => cases l' with
       | nil => rfl
       | cons y l' => simp [tcellL] at e
      | cons x l => cases l' with
       | nil => simp [tcellL] at e
       | cons y l' =>
        simp only [tcellL,List.cons.injEq] at e
        simp at h
        rw [ih.1 x y (by omega) e.1,ih.2 l l' (by omega) e.2]
   exact fun l l' => (key (SizeOf.sizeOf l + 1)).2 l l' (Nat.lt_succ_self _)
  simp only [T.k,T.n,T.s,T.l,AV.agg.injEq,List.cons.injEq,AV.int.injEq,AV.str.injEq,AV.slice.injEq,true_and,and_true] at h
  obtain ⟨rfl,rfl,rfl,e⟩:=h
  rw [inj _ _ e]
 ·intro h; rw [h]
end Go.V
/- Queues of a merger: contracts. -/
set_option linter.unusedSectionVars false
namespace Go.V
open Go Go.Proofs

theorem SlAt.inv {c:MH} {r:MRole} {e sz:Nat} {v:AV} {cs:List AV} (h:SlAt c r e sz v cs):(v = .nilslice /\ cs = []) \/ ∃ id n g,v = .rslice id 0 n /\ c r = some (id,.cells cs e sz g) /\ cs.length = n * sz:=by
 cases h with
 | nil => exact .inl ⟨rfl,rfl⟩
 | row id n g cs h hl => exact .inr ⟨id,n,g,rfl,h,hl⟩
theorem At.ne {R:Type} {c:Heap R} {σ:State} {r s:R} {i j:Nat} {o p:AObj} (h:At c σ) (hr:c r = some (i,o)) (hs:c s = some (j,p)) (hrs:r ≠ s):i ≠ j:=fun e => hrs (h.inj r s i o p hr (by rw [e]; exact hs))

structure QP (c:MH) (r s:MRole) (id:Nat) (A Bs:List AV) (oe osz:Nat) (og:Bool) (e sz:Nat) (lv:AV) (fr n:Nat) (vals:List AV):Prop where
 rs:r ≠ s
 ob:c r = some (id,.cells (A ++ lv :: .int .i64 (fr:Int) :: Bs) oe osz og)
 q:QuAt c s e sz lv fr n vals

def C90q (e sz:Nat):Contract:=fun args σ K => ∃ (c:MH) (r s:MRole) (id:Nat) (A Bs:List AV) (oe osz:Nat) (og:Bool) (lv:AV) (fr n:Nat) (vals:List AV) (off:Nat),args = [.ptr id off] /\ (At c σ /\ QP c r s id A Bs oe osz og e sz lv fr n vals /\ off = A.length /\ n <= 100000) /\ K (.int .i64 (n:Int)) σ
def C89q (e sz:Nat) {α:Type} (f:α -> AV):Contract:=fun args σ K => ∃ (c:MH) (r s:MRole) (id:Nat) (A Bs:List AV) (oe osz:Nat) (og:Bool) (lv:AV) (fr n:Nat) (vals:List AV) (off:Nat) (x:α),args = [.ptr id off,f x] /\ (At c σ /\ QP c r s id A Bs oe osz og e sz lv fr n vals /\ off = A.length /\ n <= 100000) /\
 ∀ (lv':AV) (c':MH) (σ':State),(At c' σ' /\ QP c' r s id A Bs oe osz og e sz lv' fr (n + 1) (vals ++ (f x).cells) /\ Same c c' [r,s]) -> K (.tuple []) σ'
def C91q (e sz:Nat) {α:Type} (f:α -> AV):Contract:=fun args σ K => ∃ (c:MH) (r s:MRole) (id:Nat) (A Bs:List AV) (oe osz:Nat) (og:Bool) (lv:AV) (fr n:Nat) (vals:List AV) (off:Nat) (x:α),args = [.ptr id off] /\ (At c σ /\ QP c r s id A Bs oe osz og e sz lv fr (n + 1) ((f x).cells ++ vals) /\ off = A.length /\ n <= 100000 /\ vals.all AV.one = true) /\
 ∀ (lv':AV) (fr':Nat) (c':MH) (σ':State),(At c' σ' /\ QP c' r s id A Bs oe osz og e sz lv' fr' n vals /\ Same c c' [r,s]) -> K (f x) σ'

section
variable {B:Nat} {w0:World} {G:Nat -> AV}

theorem c90_ok:ContractOk (EV B w0 G) 90 (C90q 3 1):=by
 rintro args σ Q ⟨c,r,s,id,A,Bs,oe,osz,og,lv,fr,n,vals,off,rfl,⟨hA,hq,rfl,hn⟩,hQ⟩
 have hid:=hA.obj hq.ob
 obtain ⟨pre,hsl,hpl,hvl,hfr⟩:=hq.q
 rcases hsl.inv with ⟨rfl,hnil⟩ | ⟨tid,m,g,rfl,hs,hml⟩
 ·obtain ⟨h1,h2⟩:=List.append_eq_nil_iff.1 hnil
  subst h1; subst h2
  have hfr0:fr = 0:=by simp at hpl; omega
  have hn0:n = 0:=by simp at hvl; omega
  subst hfr0; subst hn0
  refine bodyC_ok (EV_mixed B w0 G) (hnd_ok (EV_mixed B w0 G) contracts_nil) (fun l hl _ Q a σ k => k.elim) ((vc90n B w0 G σ id A.length _).mpr ?_)
  simp only [ex_OC,ex_OE,ex_RS,hid,Nat.add_zero,AObj.cells.injEq,getD_mid,getD_mid1,int_inj,lt_mid,lt_mid1,eq_self,true_and,and_true,exists_eq_left',exists_eq_left,exists_and_left,exists_and_right,and_assoc,exists_eq',exists_const]
  exact hQ
 ·have w:IntKind.wrap .i64 ((m:Int) - (fr:Int)) = (n:Int):=by
   rw [List.length_append,hpl,hvl] at hml
   rw [wr_small (by omega) (by omega)]; omega
  refine bodyC_ok (EV_mixed B w0 G) (hnd_ok (EV_mixed B w0 G) contracts_nil) (fun l hl _ Q a σ k => k.elim) ((vc90r B w0 G σ id A.length _).mpr ?_)
  simp only [ex_OC,ex_OE,ex_RS,hid,Nat.add_zero,AObj.cells.injEq,AV.rslice.injEq,getD_mid,getD_mid1,int_inj,lt_mid,lt_mid1,w,eq_self,true_and,and_true,exists_eq_left',exists_eq_left,exists_and_left,exists_and_right,and_assoc,exists_eq',exists_const]
  exact hQ
theorem c88_ok:ContractOk (EV B w0 G) 88 (C90q 37 4):=by
 rintro args σ Q ⟨c,r,s,id,A,Bs,oe,osz,og,lv,fr,n,vals,off,rfl,⟨hA,hq,rfl,hn⟩,hQ⟩
 have hid:=hA.obj hq.ob
 obtain ⟨pre,hsl,hpl,hvl,hfr⟩:=hq.q
 rcases hsl.inv with ⟨rfl,hnil⟩ | ⟨tid,m,g,rfl,hs,hml⟩
 ·obtain ⟨h1,h2⟩:=List.append_eq_nil_iff.1 hnil
  subst h1; subst h2
  have hfr0:fr = 0:=by simp at hpl; omega
  have hn0:n = 0:=by simp at hvl; omega
  subst hfr0; subst hn0
  refine bodyC_ok (EV_mixed B w0 G) (hnd_ok (EV_mixed B w0 G) contracts_nil) (fun l hl _ Q a σ k => k.elim) ((vc88n B w0 G σ id A.length _).mpr ?_)
  simp only [ex_OC,ex_OE,ex_RS,hid,Nat.add_zero,AObj.cells.injEq,getD_mid,getD_mid1,int_inj,lt_mid,lt_mid1,eq_self,true_and,and_true,exists_eq_left',exists_eq_left,exists_and_left,exists_and_right,and_assoc,exists_eq',exists_const]
  exact hQ
 ·have w:IntKind.wrap .i64 ((m:Int) - (fr:Int)) = (n:Int):=by
   rw [List.length_append,hpl,hvl] at hml
   rw [wr_small (by omega) (by omega)]; omega
  refine bodyC_ok (EV_mixed B w0 G) (hnd_ok (EV_mixed B w0 G) contracts_nil) (fun l hl _ Q a σ k => k.elim) ((vc88r B w0 G σ id A.length _).mpr ?_)
  simp only [ex_OC,ex_OE,ex_RS,hid,Nat.add_zero,AObj.cells.injEq,AV.rslice.injEq,getD_mid,getD_mid1,int_inj,lt_mid,lt_mid1,w,eq_self,true_and,and_true,exists_eq_left',exists_eq_left,exists_and_left,exists_and_right,and_assoc,exists_eq',exists_const]
  exact hQ

theorem c89_ok:ContractOk (EV B w0 G) 89 (C89q 3 1 fun x:Int => .int .i64 x):=by
 rintro args σ Q ⟨c,r,s,id,A,Bs,oe,osz,og,lv,fr,n,vals,off,x,rfl,⟨hA,hq,rfl,hn⟩,hQ⟩
 have hid:=hA.obj hq.ob
 have hlt:=hA.lt hq.ob
 have hne:id ≠ σ.next:=by omega
 obtain ⟨pre,hsl,hpl,hvl,hfr⟩:=hq.q
 rcases hsl.inv with ⟨rfl,hnil⟩ | ⟨tid,m,g,rfl,hs,hml⟩
 ·obtain ⟨h1,h2⟩:=List.append_eq_nil_iff.1 hnil
  subst h1; subst h2
  have hfr0:fr = 0:=by simp at hpl; omega
  have hn0:n = 0:=by simp at hvl; omega
  subst hfr0; subst hn0
  refine bodyC_ok (EV_mixed B w0 G) (hnd_ok (EV_mixed B w0 G) contracts_nil) (fun l hl _ Q a σ k => k.elim) ((vc89n B w0 G σ id A.length x _).mpr ?_)
  simp only [ex_OC,ex_OE,ex_RS,objs_set,objs_new,next_set,next_new,hid,hne,if_true,if_false,Nat.add_zero,AObj.cells.injEq,getD_mid,getD_mid1,asplice_mid,int_inj,lt_mid,lt_mid1,le_mid,eq_self,true_and,and_true,exists_eq_left',exists_eq_left,exists_and_left,exists_and_right,and_assoc,exists_eq',exists_const]
  refine ⟨by omega,by omega,hQ (.rslice σ.next 0 1) _ _ ⟨(hA.new s _).set ((hup_ne hq.rs).trans hq.ob) _,⟨hq.rs,hup_self,[],.row σ.next 1 true [.int .i64 x] ((hup_ne hq.rs.symm).trans hup_self) rfl,rfl,rfl,by omega⟩,(Same.hup (by simp)).trans (Same.hup (by simp))⟩⟩
 ·have hid':=hA.obj hs
  have hlt':=hA.lt hs
  have hne1:id ≠ tid:=hA.ne hq.ob hs hq.rs
  have hml':=hml
  rw [List.length_append,hpl,hvl] at hml'
  have htake:List.take (m * 1) (pre ++ vals) = pre ++ vals:=List.take_of_length_le (by omega)
  refine bodyC_ok (EV_mixed B w0 G) (hnd_ok (EV_mixed B w0 G) contracts_nil) (fun l hl _ Q a σ k => k.elim) ((vc89r B w0 G σ id A.length x _).mpr ?_)
  simp only [ex_OC,ex_OE,ex_RS,objs_set,objs_new,next_set,next_new,hid,hid',hne,hne1,if_true,if_false,Nat.add_zero,AObj.cells.injEq,AV.rslice.injEq,getD_mid,getD_mid1,asplice_mid,int_inj,lt_mid,lt_mid1,le_mid,htake,eq_self,true_and,and_true,exists_eq_left',exists_eq_left,exists_and_left,exists_and_right,and_assoc,exists_eq',exists_const]
  refine ⟨by omega,by omega,by omega,hQ (.rslice σ.next 0 (m + 1)) _ _ ⟨(hA.grow hs _).set ((hup_ne hq.rs).trans hq.ob) _,⟨hq.rs,hup_self,pre,?_,hpl,by rw [List.length_append,hvl]; show n * 1 + 1 = (n + 1) * 1; omega,by omega⟩,(Same.hup (by simp)).trans (Same.hup (by simp))⟩⟩
  rw [<-List.append_assoc]
  exact .row σ.next (m + 1) true _ ((hup_ne hq.rs.symm).trans hup_self) (by rw [List.length_append,hml]; show m * 1 + 1 = (m + 1) * 1; omega)

theorem asplice_end {cs z v:List AV} {k:Nat} (hk:cs.length = k) (hz:z.length = v.length):asplice (cs ++ z) k v = cs ++ v:=by
 unfold asplice
 rw [List.take_left' hk,List.drop_of_length_le (by rw [List.length_append]; omega),List.append_nil]

theorem c67_ok:ContractOk (EV B w0 G) 67 (C89q 37 4 fun x:T => .agg (tc x)):=by
 rintro args σ Q ⟨c,r,s,id,A,Bs,oe,osz,og,lv,fr,n,vals,off,x,rfl,⟨hA,hq,rfl,hn⟩,hQ⟩
 have hid:=hA.obj hq.ob
 have hlt:=hA.lt hq.ob
 have hne:id ≠ σ.next:=by omega
 have hne2:σ.next ≠ id:=by omega
 obtain ⟨pre,hsl,hpl,hvl,hfr⟩:=hq.q
 rcases hsl.inv with ⟨rfl,hnil⟩ | ⟨tid,m,g,rfl,hs,hml⟩
 ·obtain ⟨h1,h2⟩:=List.append_eq_nil_iff.1 hnil
  subst h1; subst h2
  have hfr0:fr = 0:=by simp at hpl; omega
  have hn0:n = 0:=by simp at hvl; omega
  subst hfr0; subst hn0
  have hsp:asplice [AV.int .i64 0,.int .i64 0,.str ⟨⟨[]⟩⟩,.nilslice] 0 [.int .i64 x.k,.int .i64 x.n,.str x.s,.slice 4 (tcellL x.l) .any] = tc x:=rfl
  refine bodyC_ok (EV_mixed B w0 G) (hnd_ok (EV_mixed B w0 G) contracts_nil) (fun l hl _ Q a σ k => k.elim) ((vc67n B w0 G σ id A.length x _).mpr ?_)
  simp only [ex_OC,ex_OE,ex_RS,objs_set,objs_new,next_set,next_new,hid,hne,hne2,if_true,if_false,Nat.add_zero,AObj.cells.injEq,getD_mid,getD_mid1,asplice_mid,int_inj,lt_mid,lt_mid1,le_mid,hsp,eq_self,true_and,and_true,exists_eq_left',exists_eq_left,exists_and_left,exists_and_right,and_assoc,exists_eq',exists_const]
  have hn0:QuAt (hup (hup c s (some (σ.next,.cells (tc x) 37 4 true))) r (some (id,.cells (A ++ .rslice σ.next 0 1 :: .int .i64 ((0:Nat):Int) :: Bs) oe osz og))) s 37 4 (.rslice σ.next 0 1) 0 1 ([] ++ (AV.agg (tc x)).cells) :=
   ⟨[],.row σ.next 1 true (tc x) ((hup_ne hq.rs.symm).trans hup_self) rfl,rfl,rfl,by omega⟩
  refine ⟨by omega,by omega,by omega,by omega,by simp,?_,by omega,by omega,by simp,?_⟩
  ·exact hQ (.rslice σ.next 0 1) _ _ ⟨((hA.new s _).set hup_self _).set (by rw [hup_hup]; exact (hup_ne hq.rs).trans hq.ob) _,⟨hq.rs,hup_self,by rw [hup_hup]; exact hn0⟩,((Same.hup (by simp)).trans (Same.hup (by simp))).trans (Same.hup (by simp))⟩
  ·have h1:=(hA.new s (.cells [AV.int .i64 0,.int .i64 0,.str ⟨⟨[]⟩⟩,.nilslice] 37 4 true)).set ((hup_ne hq.rs).trans hq.ob) (.cells (A ++ .rslice σ.next 0 1 :: .int .i64 ((0:Nat):Int) :: Bs) oe osz og)
   have h2:=h1.set ((hup_ne hq.rs.symm).trans hup_self) (.cells (tc x) 37 4 true)
   exact hQ (.rslice σ.next 0 1) _ _ ⟨h2,⟨hq.rs,(hup_ne hq.rs).trans hup_self,[],.row σ.next 1 true (tc x) hup_self rfl,rfl,rfl,by omega⟩,((Same.hup (by simp)).trans (Same.hup (by simp))).trans (Same.hup (by simp))⟩
 ·have hid':=hA.obj hs
  have hlt':=hA.lt hs
  have hne1:id ≠ tid:=hA.ne hq.ob hs hq.rs
  have hml':=hml
  rw [List.length_append,hpl,hvl] at hml'
  have htake:List.take (m * 4) (pre ++ vals) = pre ++ vals:=List.take_of_length_le (by omega)
  have hsp:asplice ((pre ++ vals) ++ [AV.int .i64 0,.int .i64 0,.str ⟨⟨[]⟩⟩,.nilslice]) (m * 4) [.int .i64 x.k,.int .i64 x.n,.str x.s,.slice 4 (tcellL x.l) .any] = (pre ++ vals) ++ tc x:=asplice_end hml rfl
  refine bodyC_ok (EV_mixed B w0 G) (hnd_ok (EV_mixed B w0 G) contracts_nil) (fun l hl _ Q a σ k => k.elim) ((vc67r B w0 G σ id A.length x _).mpr ?_)
  simp only [ex_OC,ex_OE,ex_RS,objs_set,objs_new,next_set,next_new,hid,hid',hne,hne1,hne2,if_true,if_false,Nat.add_zero,Nat.zero_add,Int.toNat_natCast,AObj.cells.injEq,AV.rslice.injEq,getD_mid,getD_mid1,asplice_mid,int_inj,lt_mid,lt_mid1,le_mid,htake,hsp,eq_self,true_and,and_true,exists_eq_left',exists_eq_left,exists_and_left,exists_and_right,and_assoc,exists_eq',exists_const]
  have hlen:(pre ++ vals ++ tc x).length = (m + 1) * 4:=by rw [List.length_append,hml]; show m * 4 + 4 = _; omega
  have hvl2:(vals ++ (AV.agg (tc x)).cells).length = (n + 1) * 4:=by rw [List.length_append,hvl]; show n * 4 + 4 = _; omega
  have hl2:m * 4 + 4 <= (pre ++ vals ++ [AV.int .i64 0,.int .i64 0,.str ⟨⟨[]⟩⟩,.nilslice]).length:=by rw [List.length_append,hml]; exact Nat.le_refl _
  refine ⟨by omega,by omega,by omega,by omega,by omega,hl2,?_,by omega,by omega,hl2,?_⟩
  ·refine hQ (.rslice σ.next 0 (m + 1)) _ _ ⟨((hA.grow hs _).set hup_self _).set (by rw [hup_hup]; exact (hup_ne hq.rs).trans hq.ob) _,⟨hq.rs,hup_self,pre,?_,hpl,hvl2,by omega⟩,((Same.hup (by simp)).trans (Same.hup (by simp))).trans (Same.hup (by simp))⟩
   rw [<-List.append_assoc]
   exact .row σ.next (m + 1) true _ ((hup_ne hq.rs.symm).trans hup_self) hlen
  ·have h1:=(hA.grow hs (.cells ((pre ++ vals) ++ [AV.int .i64 0,.int .i64 0,.str ⟨⟨[]⟩⟩,.nilslice]) 37 4 true)).set ((hup_ne hq.rs).trans hq.ob) (.cells (A ++ .rslice σ.next 0 (m + 1) :: .int .i64 (fr:Int) :: Bs) oe osz og)
   have h2:=h1.set ((hup_ne hq.rs.symm).trans hup_self) (.cells ((pre ++ vals) ++ tc x) 37 4 true)
   refine hQ (.rslice σ.next 0 (m + 1)) _ _ ⟨h2,⟨hq.rs,(hup_ne hq.rs).trans hup_self,pre,?_,hpl,hvl2,by omega⟩,((Same.hup (by simp)).trans (Same.hup (by simp))).trans (Same.hup (by simp))⟩
   rw [<-List.append_assoc]
   exact .row σ.next (m + 1) true _ hup_self hlen

theorem c91_ok:ContractOk (EV B w0 G) 91 (C91q 3 1 fun x:Nat => .int .i64 (x:Int)):=by
 rintro args σ Q ⟨c,r,s,id,A,Bs,oe,osz,og,lv,fr,n,vals,off,x,rfl,⟨hA,hq,rfl,hn,hone⟩,hQ⟩
 have hid:=hA.obj hq.ob
 have hlt:=hA.lt hq.ob
 have hne:id ≠ σ.next:=by omega
 obtain ⟨pre,hsl,hpl,hvl,hfr⟩:=hq.q
 rcases hsl.inv with ⟨rfl,hnil⟩ | ⟨tid,m,g,rfl,hs,hml⟩
 ·exact absurd hnil (by simp [AV.cells,tc])
 have hs:c s = some (tid,.cells (pre ++ ([AV.int .i64 (x:Int)] ++ vals)) 3 1 g):=hs
 have hml:(pre ++ ([AV.int .i64 (x:Int)] ++ vals)).length = m * 1:=hml
 have hvl:([AV.int .i64 (x:Int)] ++ vals).length = (n + 1) * 1:=hvl
 have hid':=hA.obj hs
 have hne1:id ≠ tid:=hA.ne hq.ob hs hq.rs
 have hne2:tid ≠ id:=fun e => hne1 e.symm
 have hml':=hml
 rw [List.length_append,hpl,hvl] at hml'
 have hm:m = fr + (n + 1):=by omega
 subst hm
 have hvl':vals.length = n * 1:=by rw [List.length_append] at hvl; have e:([AV.int .i64 (x:Int)]).length = 1:=rfl; rw [e] at hvl; omega
 have hsub:fr + (n + 1) - (fr + 1) = n:=by omega
 have w1:IntKind.wrap .i64 ((fr:Int) + 1) = ((fr + 1:Nat):Int):=by rw [wr_small (by omega) (by omega)]; omega
 have w2:IntKind.wrap .i64 (2 * ((fr + 1:Nat):Int)) = ((2 * (fr + 1):Nat):Int):=by rw [wr_small (by omega) (by omega)]; omega
 have hlen:(pre ++ ([AV.int .i64 (x:Int)] ++ vals)).length = (fr + (n + 1)) * 1:=hml
 have hpl1:pre.length = fr:=by omega
 have hx:List.getD (pre ++ ([AV.int .i64 (x:Int)] ++ vals)) fr .undef = .int .i64 (x:Int):=by rw [<-hpl1]; exact getD_mid
 have hasp:asplice (pre ++ ([AV.int .i64 (x:Int)] ++ vals)) fr [AV.int .i64 0] = pre ++ ([AV.int .i64 0] ++ vals):=by rw [<-hpl1]; exact asplice_mid
 have hdrop:List.take n (List.drop (fr + 1) (pre ++ ([AV.int .i64 0] ++ vals))) = vals:=by
  rw [<-List.append_assoc,List.drop_left' (by simp [hpl1]),List.take_of_length_le (by omega)]
 have hfl:flat (chunk none vals n) = vals:=by
  rw [flat_chunk none vals n 1 rfl (by omega) hone,<-hvl',List.take_length]
 have hcl:(chunk none vals n).length = n:=chunk_length none vals n 1 rfl (by omega)
 refine bodyC_ok (EV_mixed B w0 G) (hnd_ok (EV_mixed B w0 G) contracts_nil) (fun l hl _ Q a σ k => k.elim) ((vc91 B w0 G σ id A.length _).mpr ?_)
 simp only [ex_OC,ex_OE,ex_RS,objs_set,objs_new,next_set,next_new,hid,hid',hne,hne1,hne2,if_true,if_false,Nat.add_zero,Nat.zero_add,Nat.mul_one,Int.toNat_natCast,AObj.cells.injEq,AV.rslice.injEq,getD_mid,getD_mid1,asplice_mid,asplice_mid1,int_inj,tm_inj,hx,hasp,hdrop,hfl,hcl,hsub,w1,w2,lt_mid,lt_mid1,le_mid,le_mid1,nat_nonneg,nat_le_self,eq_self,true_and,and_true,exists_eq_left',exists_eq_left,exists_eq,exists_and_left,exists_and_right,and_assoc,exists_eq',exists_const]
 have h1:=(hA.set hs (.cells (pre ++ ([AV.int .i64 0] ++ vals)) 3 1 g)).set ((hup_ne hq.rs).trans hq.ob) (.cells (A ++ .rslice tid 0 (fr + (n + 1)) :: .int .i64 ((fr + 1:Nat):Int) :: Bs) oe osz og)
 have hpz:(pre ++ [AV.int .i64 0]).length = (fr + 1) * 1:=by rw [List.length_append,hpl]; show fr * 1 + 1 = _; omega
 have hlz:(pre ++ ([AV.int .i64 0] ++ vals)).length = (fr + (n + 1)) * 1:=by rw [List.length_append,List.length_append,hpl,hvl']; show fr * 1 + (1 + n * 1) = _; omega
 have hkeep:∀ hfr':fr + 1 <= 32 + n,Q (.int .i64 (x:Int)) ((σ.set tid (.cells (pre ++ ([AV.int .i64 0] ++ vals)) 3 1 g)).set id (.cells (A ++ .rslice tid 0 (fr + (n + 1)) :: .int .i64 ((fr + 1:Nat):Int) :: Bs) oe osz og)):=fun hfr' =>
  hQ (.rslice tid 0 (fr + (n + 1))) (fr + 1) _ _ ⟨h1,⟨hq.rs,hup_self,pre ++ [AV.int .i64 0],by
   rw [List.append_assoc]
   exact .row tid (fr + (n + 1)) g _ ((hup_ne hq.rs.symm).trans hup_self) hlz,hpz,hvl',hfr'⟩,(Same.hup (by simp)).trans (Same.hup (by simp))⟩
 have h2:=(h1.set hup_self (.cells (A ++ .nilslice :: .int .i64 ((fr + 1:Nat):Int) :: Bs) oe osz og)).set hup_self (.cells (A ++ .nilslice :: .int .i64 ((0:Nat):Int) :: Bs) oe osz og)
 have h3:=(((h1.new s (.cells vals 3 1 true)).set ((hup_ne hq.rs).trans hup_self) (.cells (A ++ .rslice σ.next 0 n :: .int .i64 ((fr + 1:Nat):Int) :: Bs) oe osz og)).set hup_self (.cells (A ++ .rslice σ.next 0 n :: .int .i64 ((0:Nat):Int) :: Bs) oe osz og))
 have hempty:n = 0 -> Q (.int .i64 (x:Int)) (((( σ.set tid (.cells (pre ++ ([AV.int .i64 0] ++ vals)) 3 1 g)).set id (.cells (A ++ .rslice tid 0 (fr + (n + 1)) :: .int .i64 ((fr + 1:Nat):Int) :: Bs) oe osz og)).set id (.cells (A ++ .nilslice :: .int .i64 ((fr + 1:Nat):Int) :: Bs) oe osz og)).set id (.cells (A ++ .nilslice :: .int .i64 ((0:Nat):Int) :: Bs) oe osz og)):=fun h0 => by
  subst h0
  have hv0:vals = []:=List.length_eq_zero_iff.1 (by omega)
  subst hv0
  exact hQ .nilslice 0 _ _ ⟨h2,⟨hq.rs,hup_self,[],.nil,rfl,rfl,by omega⟩,(((Same.hup (by simp)).trans (Same.hup (by simp))).trans (Same.hup (by simp))).trans (Same.hup (by simp))⟩
 have hnew:Q (.int .i64 (x:Int)) (((((σ.set tid (.cells (pre ++ ([AV.int .i64 0] ++ vals)) 3 1 g)).set id (.cells (A ++ .rslice tid 0 (fr + (n + 1)) :: .int .i64 ((fr + 1:Nat):Int) :: Bs) oe osz og)).new (.cells vals 3 1 true)).set id (.cells (A ++ .rslice σ.next 0 n :: .int .i64 ((fr + 1:Nat):Int) :: Bs) oe osz og)).set id (.cells (A ++ .rslice σ.next 0 n :: .int .i64 ((0:Nat):Int) :: Bs) oe osz og)) :=
  hQ (.rslice σ.next 0 n) 0 _ _ ⟨h3,⟨hq.rs,hup_self,[],.row σ.next n true vals ((hup_ne hq.rs.symm).trans ((hup_ne hq.rs.symm).trans hup_self)) hvl',rfl,hvl',by omega⟩,((((Same.hup (by simp)).trans (Same.hup (by simp))).trans (Same.hup (by simp))).trans (Same.hup (by simp))).trans (Same.hup (by simp))⟩
 refine ⟨by omega,by rw [hlen]; omega,by omega,by rw [hlen]; omega,bcase_of (fun hb => bcase_of (fun hb2 => ⟨by omega,by rw [hlz]; omega,bcase_of (fun hb3 => hempty ?_) (fun hb3 => ⟨by omega,by omega,hnew⟩)⟩) (fun hb2 => hkeep ?_)) (fun hb => hkeep ?_)⟩
 ·have:=List.isEmpty_iff.1 hb3
  rw [<-hcl,this]; rfl
 ·have:=of_decide_eq_false hb2
  omega
 ·have:=of_decide_eq_false hb
  omega

theorem c92_ok:ContractOk (EV B w0 G) 92 (C91q 37 4 fun x:T => .agg (tc x)):=by
 rintro args σ Q ⟨c,r,s,id,A,Bs,oe,osz,og,lv,fr,n,vals,off,x,rfl,⟨hA,hq,rfl,hn,hone⟩,hQ⟩
 have hid:=hA.obj hq.ob
 have hlt:=hA.lt hq.ob
 have hne:id ≠ σ.next:=by omega
 obtain ⟨pre,hsl,hpl,hvl,hfr⟩:=hq.q
 rcases hsl.inv with ⟨rfl,hnil⟩ | ⟨tid,m,g,rfl,hs,hml⟩
 ·exact absurd hnil (by simp [AV.cells,tc])
 have hs:c s = some (tid,.cells (pre ++ (tc x ++ vals)) 37 4 g):=hs
 have hml:(pre ++ (tc x ++ vals)).length = m * 4:=hml
 have hvl:(tc x ++ vals).length = (n + 1) * 4:=hvl
 have hid':=hA.obj hs
 have hne1:id ≠ tid:=hA.ne hq.ob hs hq.rs
 have hne2:tid ≠ id:=fun e => hne1 e.symm
 have hml':=hml
 rw [List.length_append,hpl,hvl] at hml'
 have hm:m = fr + (n + 1):=by omega
 subst hm
 have hvl':vals.length = n * 4:=by rw [List.length_append] at hvl; have e:(tc x).length = 4:=rfl; rw [e] at hvl; omega
 have hsub:fr + (n + 1) - (fr + 1) = n:=by omega
 have w1:IntKind.wrap .i64 ((fr:Int) + 1) = ((fr + 1:Nat):Int):=by rw [wr_small (by omega) (by omega)]; omega
 have w2:IntKind.wrap .i64 (2 * ((fr + 1:Nat):Int)) = ((2 * (fr + 1):Nat):Int):=by rw [wr_small (by omega) (by omega)]; omega
 have hlen:(pre ++ (tc x ++ vals)).length = (fr + (n + 1)) * 4:=hml
 have hx:List.take 4 (List.drop (fr * 4) (pre ++ (tc x ++ vals))) = [AV.int .i64 x.k,.int .i64 x.n,.str x.s,.slice 4 (tcellL x.l) .any]:=by
  rw [List.drop_left' hpl]; rfl
 have hasp:asplice (pre ++ (tc x ++ vals)) (fr * 4) [AV.int .i64 0,.int .i64 0,.str ⟨⟨[]⟩⟩,.nilslice] = pre ++ ([AV.int .i64 0,.int .i64 0,.str ⟨⟨[]⟩⟩,.nilslice] ++ vals):=by
  unfold asplice
  rw [List.take_left' hpl,<-List.append_assoc pre (tc x) vals,List.drop_left' (by rw [List.length_append,hpl]; rfl),List.append_assoc]
 have hdrop:List.take (n * 4) (List.drop ((fr + 1) * 4) (pre ++ ([AV.int .i64 0,.int .i64 0,.str ⟨⟨[]⟩⟩,.nilslice] ++ vals))) = vals:=by
  rw [<-List.append_assoc,List.drop_left' (by rw [List.length_append,hpl]; show fr * 4 + 4 = _; omega),List.take_of_length_le (by omega)]
 have hfl:flat (chunk (some 4) vals n) = vals:=by
  rw [flat_chunk (some 4) vals n 4 rfl (by omega) hone,<-hvl',List.take_length]
 have hcl:(chunk (some 4) vals n).length = n:=chunk_length (some 4) vals n 4 rfl (by omega)
 refine bodyC_ok (EV_mixed B w0 G) (hnd_ok (EV_mixed B w0 G) contracts_nil) (fun l hl _ Q a σ k => k.elim) ((vc92 B w0 G σ id A.length _).mpr ?_)
 simp only [ex_OC,ex_OE,ex_RS,objs_set,objs_new,next_set,next_new,hid,hid',hne,hne1,hne2,if_true,if_false,Nat.add_zero,Nat.zero_add,Nat.mul_one,Int.toNat_natCast,AObj.cells.injEq,AV.rslice.injEq,getD_mid,getD_mid1,asplice_mid,asplice_mid1,int_inj,tm_inj,hx,hasp,hdrop,hfl,hcl,hsub,w1,w2,lt_mid,lt_mid1,le_mid,le_mid1,nat_nonneg,nat_le_self,eq_self,true_and,and_true,exists_eq_left',exists_eq_left,exists_eq,exists_and_left,exists_and_right,and_assoc,exists_eq',exists_const]
 have h1:=(hA.set hs (.cells (pre ++ ([AV.int .i64 0,.int .i64 0,.str ⟨⟨[]⟩⟩,.nilslice] ++ vals)) 37 4 g)).set ((hup_ne hq.rs).trans hq.ob) (.cells (A ++ .rslice tid 0 (fr + (n + 1)) :: .int .i64 ((fr + 1:Nat):Int) :: Bs) oe osz og)
 have hpz:(pre ++ [AV.int .i64 0,.int .i64 0,.str ⟨⟨[]⟩⟩,.nilslice]).length = (fr + 1) * 4:=by rw [List.length_append,hpl]; show fr * 4 + 4 = _; omega
 have hlz:(pre ++ ([AV.int .i64 0,.int .i64 0,.str ⟨⟨[]⟩⟩,.nilslice] ++ vals)).length = (fr + (n + 1)) * 4:=by rw [List.length_append,List.length_append,hpl,hvl']; show fr * 4 + (4 + n * 4) = _; omega
 have hkeep:∀ hfr':fr + 1 <= 32 + n,Q (.agg (tc x)) ((σ.set tid (.cells (pre ++ ([AV.int .i64 0,.int .i64 0,.str ⟨⟨[]⟩⟩,.nilslice] ++ vals)) 37 4 g)).set id (.cells (A ++ .rslice tid 0 (fr + (n + 1)) :: .int .i64 ((fr + 1:Nat):Int) :: Bs) oe osz og)):=fun hfr' =>
  hQ (.rslice tid 0 (fr + (n + 1))) (fr + 1) _ _ ⟨h1,⟨hq.rs,hup_self,pre ++ [AV.int .i64 0,.int .i64 0,.str ⟨⟨[]⟩⟩,.nilslice],by
   rw [List.append_assoc]
   exact .row tid (fr + (n + 1)) g _ ((hup_ne hq.rs.symm).trans hup_self) hlz,hpz,hvl',hfr'⟩,(Same.hup (by simp)).trans (Same.hup (by simp))⟩
 have h2:=(h1.set hup_self (.cells (A ++ .nilslice :: .int .i64 ((fr + 1:Nat):Int) :: Bs) oe osz og)).set hup_self (.cells (A ++ .nilslice :: .int .i64 ((0:Nat):Int) :: Bs) oe osz og)
 have h3:=(((h1.new s (.cells vals 37 4 true)).set ((hup_ne hq.rs).trans hup_self) (.cells (A ++ .rslice σ.next 0 n :: .int .i64 ((fr + 1:Nat):Int) :: Bs) oe osz og)).set hup_self (.cells (A ++ .rslice σ.next 0 n :: .int .i64 ((0:Nat):Int) :: Bs) oe osz og))
 have hempty:n = 0 -> Q (.agg (tc x)) (((( σ.set tid (.cells (pre ++ ([AV.int .i64 0,.int .i64 0,.str ⟨⟨[]⟩⟩,.nilslice] ++ vals)) 37 4 g)).set id (.cells (A ++ .rslice tid 0 (fr + (n + 1)) :: .int .i64 ((fr + 1:Nat):Int) :: Bs) oe osz og)).set id (.cells (A ++ .nilslice :: .int .i64 ((fr + 1:Nat):Int) :: Bs) oe osz og)).set id (.cells (A ++ .nilslice :: .int .i64 ((0:Nat):Int) :: Bs) oe osz og)):=fun h0 => by
  subst h0
  have hv0:vals = []:=List.length_eq_zero_iff.1 (by omega)
  subst hv0
  exact hQ .nilslice 0 _ _ ⟨h2,⟨hq.rs,hup_self,[],.nil,rfl,rfl,by omega⟩,(((Same.hup (by simp)).trans (Same.hup (by simp))).trans (Same.hup (by simp))).trans (Same.hup (by simp))⟩
 have hnew:Q (.agg (tc x)) (((((σ.set tid (.cells (pre ++ ([AV.int .i64 0,.int .i64 0,.str ⟨⟨[]⟩⟩,.nilslice] ++ vals)) 37 4 g)).set id (.cells (A ++ .rslice tid 0 (fr + (n + 1)) :: .int .i64 ((fr + 1:Nat):Int) :: Bs) oe osz og)).new (.cells vals 37 4 true)).set id (.cells (A ++ .rslice σ.next 0 n :: .int .i64 ((fr + 1:Nat):Int) :: Bs) oe osz og)).set id (.cells (A ++ .rslice σ.next 0 n :: .int .i64 ((0:Nat):Int) :: Bs) oe osz og)) :=
  hQ (.rslice σ.next 0 n) 0 _ _ ⟨h3,⟨hq.rs,hup_self,[],.row σ.next n true vals ((hup_ne hq.rs.symm).trans ((hup_ne hq.rs.symm).trans hup_self)) hvl',rfl,hvl',by omega⟩,((((Same.hup (by simp)).trans (Same.hup (by simp))).trans (Same.hup (by simp))).trans (Same.hup (by simp))).trans (Same.hup (by simp))⟩
 repeat (first | refine ⟨by omega,?_⟩ | refine ⟨by rw [hlen]; omega,?_⟩)
 refine bcase_of (fun hb => bcase_of (fun hb2 => ⟨by omega,by rw [hlz]; omega,bcase_of (fun hb3 => hempty ?_) (fun hb3 => ⟨by omega,by omega,hnew⟩)⟩) (fun hb2 => hkeep ?_)) (fun hb => hkeep ?_)
 ·have:=List.isEmpty_iff.1 hb3
  rw [<-hcl,this]; rfl
 ·have:=of_decide_eq_false hb2
  omega
 ·have:=of_decide_eq_false hb
  omega
end
end Go.V
/- Conditions: the small methods of a merger. -/
namespace Go.V
open Go Go.Proofs

structure OM where
 iv:AV
 tv:AV
 tf:AV
 came:Nat
 gone:Nat
 work:Nat
 count:Nat
def OM.o (x:OM):AObj:=.cells [x.iv,x.tv,x.tf,.int .i64 (x.came:Int),.int .i64 (x.gone:Int),.int .i64 (x.work:Int),.int .i64 (x.count:Int)] 153 7 false
structure OI where
 op:Bool
 fr:Bool
 bv:AV
 qv:AV
 qf:AV
def OI.o (x:OI):AObj:=.cells [.bool x.op,.bool x.fr,x.bv,x.qv,x.qf] 159 5 false
def hM:Hint:=Hint.of OM.o
def hMN:Hint:=Hint.ofAs OM.o (fun _:Unit => AV.nilslice)
def hMR:Hint:=Hint.ofAs OM.o RS.v
def hI:Hint:=Hint.of OI.o
def hIN:Hint:=Hint.ofAs OI.o (fun _:Unit => AV.nilslice)
def hIR:Hint:=Hint.ofAs OI.o RS.v
def hPtr:Hint:=Hint.ofAs (fun x:OE => AObj.cells x.cs 155 1 x.g) (fun n:Nat => AV.ptr n 0)

def N83n:FnHint:=hAt [(1,4,hMN),(1,9,Hint.s),(1,12,hM),(2,3,hMR)]
def N83r:FnHint:=hAt [(1,4,hMR),(1,9,hEl 155 1),(1,12,hM),(2,3,hMR)]
theorem vc83n (B:Nat) (w0:World) (G:Nat -> AV) (σ:State) (id:Nat) (b:Bool) (Q:AV -> State -> Prop):(bodyC (EV B w0 G) (H0 (EV B w0 G)) (fun _ _ _ _ => False) annA N83n 83 [.ptr id 0,.bool b] σ Q) =
 ((∃ a0:OM,(((State.objs σ (id)) = (AObj.cells [(OM.iv a0),(OM.tv a0),(OM.tf a0),(AV.int .i64 ((OM.came a0:Nat):Int)),(AV.int .i64 ((OM.gone a0:Nat):Int)),(AV.int .i64 ((OM.work a0:Nat):Int)),(AV.int .i64 ((OM.count a0:Nat):Int))] 153 7 false))/\
 (((0:Nat) < 7)/\
 (∃ x1:Unit,(((List.getD [OM.iv a0,OM.tv a0,OM.tf a0,AV.int .i64 (↑(OM.came a0):Int),AV.int .i64 (↑(OM.gone a0):Int),AV.int .i64 (↑(OM.work a0):Int),AV.int .i64 (↑(OM.count a0):Int)] 0 AV.undef) = AV.nilslice)/\
 ((((8:Nat) <= 140737488355328)/\
 ((1:Nat) <= 4611686018427387904))/\
 (∃ a2:OM,(((State.objs (State.new (State.new σ (AObj.cells [(AV.bool true),(AV.bool (b)),AV.nilslice,AV.nilslice,(AV.int .i64 0)] 159 5 false)) (AObj.cells [(AV.ptr (State.next σ) 0)] 155 1 true)) (id)) = (AObj.cells [(OM.iv a2),(OM.tv a2),(OM.tf a2),(AV.int .i64 ((OM.came a2:Nat):Int)),(AV.int .i64 ((OM.gone a2:Nat):Int)),(AV.int .i64 ((OM.work a2:Nat):Int)),(AV.int .i64 ((OM.count a2:Nat):Int))] 153 7 false))/\
 (((1:Nat) <= 7)/\
 (∃ a3:OM,(((State.objs (State.set (State.new (State.new σ (AObj.cells [(AV.bool true),(AV.bool (b)),AV.nilslice,AV.nilslice,(AV.int .i64 0)] 159 5 false)) (AObj.cells [(AV.ptr (State.next σ) 0)] 155 1 true)) (id) (AObj.cells [(AV.rslice ((State.next σ) + 1) 0 1),(OM.tv a2),(OM.tf a2),(AV.int .i64 ((OM.came a2:Nat):Int)),(AV.int .i64 ((OM.gone a2:Nat):Int)),(AV.int .i64 ((OM.work a2:Nat):Int)),(AV.int .i64 ((OM.count a2:Nat):Int))] 153 7 false)) (id)) = (AObj.cells [(OM.iv a3),(OM.tv a3),(OM.tf a3),(AV.int .i64 ((OM.came a3:Nat):Int)),(AV.int .i64 ((OM.gone a3:Nat):Int)),(AV.int .i64 ((OM.work a3:Nat):Int)),(AV.int .i64 ((OM.count a3:Nat):Int))] 153 7 false))/\
 (((0:Nat) < 7)/\
 (∃ x4:RS,(((List.getD [OM.iv a3,OM.tv a3,OM.tf a3,AV.int .i64 (↑(OM.came a3):Int),AV.int .i64 (↑(OM.gone a3):Int),AV.int .i64 (↑(OM.work a3):Int),AV.int .i64 (↑(OM.count a3):Int)] 0 AV.undef) = (AV.rslice (RS.id x4) 0 (RS.n x4)))/\
 (Q (AV.int .i64 (IntKind.wrap .i64 (((RS.n x4:Nat):Int) - 1))) (State.set (State.new (State.new σ (AObj.cells [(AV.bool true),(AV.bool (b)),AV.nilslice,AV.nilslice,(AV.int .i64 0)] 159 5 false)) (AObj.cells [(AV.ptr (State.next σ) 0)] 155 1 true)) (id) (AObj.cells [(AV.rslice ((State.next σ) + 1) 0 1),(OM.tv a2),(OM.tf a2),(AV.int .i64 ((OM.came a2:Nat):Int)),(AV.int .i64 ((OM.gone a2:Nat):Int)),(AV.int .i64 ((OM.work a2:Nat):Int)),(AV.int .i64 ((OM.count a2:Nat):Int))] 153 7 false)))))))))))))))))):=by kernel_rfl
theorem vc83r (B:Nat) (w0:World) (G:Nat -> AV) (σ:State) (id:Nat) (b:Bool) (Q:AV -> State -> Prop):(bodyC (EV B w0 G) (H0 (EV B w0 G)) (fun _ _ _ _ => False) annA N83r 83 [.ptr id 0,.bool b] σ Q) =
 ((∃ a0:OM,(((State.objs σ (id)) = (AObj.cells [(OM.iv a0),(OM.tv a0),(OM.tf a0),(AV.int .i64 ((OM.came a0:Nat):Int)),(AV.int .i64 ((OM.gone a0:Nat):Int)),(AV.int .i64 ((OM.work a0:Nat):Int)),(AV.int .i64 ((OM.count a0:Nat):Int))] 153 7 false))/\
 (((0:Nat) < 7)/\
 (∃ x1:RS,(((List.getD [OM.iv a0,OM.tv a0,OM.tf a0,AV.int .i64 (↑(OM.came a0):Int),AV.int .i64 (↑(OM.gone a0):Int),AV.int .i64 (↑(OM.work a0):Int),AV.int .i64 (↑(OM.count a0):Int)] 0 AV.undef) = (AV.rslice (RS.id x1) 0 (RS.n x1)))/\
 (∃ a2:OE,(((State.objs (State.new σ (AObj.cells [(AV.bool true),(AV.bool (b)),AV.nilslice,AV.nilslice,(AV.int .i64 0)] 159 5 false)) (RS.id x1)) = (AObj.cells (OE.cs a2) 155 1 (OE.g a2)))/\
 ((((0:Nat) = 0)/\
 (((((((RS.n x1) + 1) * 8):Nat) <= 140737488355328)/\
 ((((RS.n x1) + 1):Nat) <= 4611686018427387904))/\
 ((((RS.n x1) * 1):Nat) <= (List.length (OE.cs a2)))))/\
 (∃ a3:OM,(((State.objs (State.new (State.set (State.new σ (AObj.cells [(AV.bool true),(AV.bool (b)),AV.nilslice,AV.nilslice,(AV.int .i64 0)] 159 5 false)) (RS.id x1) AObj.dead) (AObj.cells ((List.take ((RS.n x1) * 1) (OE.cs a2)) ++ [(AV.ptr (State.next σ) 0)]) 155 1 true)) (id)) = (AObj.cells [(OM.iv a3),(OM.tv a3),(OM.tf a3),(AV.int .i64 ((OM.came a3:Nat):Int)),(AV.int .i64 ((OM.gone a3:Nat):Int)),(AV.int .i64 ((OM.work a3:Nat):Int)),(AV.int .i64 ((OM.count a3:Nat):Int))] 153 7 false))/\
 (((1:Nat) <= 7)/\
 (∃ a4:OM,(((State.objs (State.set (State.new (State.set (State.new σ (AObj.cells [(AV.bool true),(AV.bool (b)),AV.nilslice,AV.nilslice,(AV.int .i64 0)] 159 5 false)) (RS.id x1) AObj.dead) (AObj.cells ((List.take ((RS.n x1) * 1) (OE.cs a2)) ++ [(AV.ptr (State.next σ) 0)]) 155 1 true)) (id) (AObj.cells [(AV.rslice ((State.next σ) + 1) 0 ((RS.n x1) + 1)),(OM.tv a3),(OM.tf a3),(AV.int .i64 ((OM.came a3:Nat):Int)),(AV.int .i64 ((OM.gone a3:Nat):Int)),(AV.int .i64 ((OM.work a3:Nat):Int)),(AV.int .i64 ((OM.count a3:Nat):Int))] 153 7 false)) (id)) = (AObj.cells [(OM.iv a4),(OM.tv a4),(OM.tf a4),(AV.int .i64 ((OM.came a4:Nat):Int)),(AV.int .i64 ((OM.gone a4:Nat):Int)),(AV.int .i64 ((OM.work a4:Nat):Int)),(AV.int .i64 ((OM.count a4:Nat):Int))] 153 7 false))/\
 (((0:Nat) < 7)/\
 (∃ x5:RS,(((List.getD [OM.iv a4,OM.tv a4,OM.tf a4,AV.int .i64 (↑(OM.came a4):Int),AV.int .i64 (↑(OM.gone a4):Int),AV.int .i64 (↑(OM.work a4):Int),AV.int .i64 (↑(OM.count a4):Int)] 0 AV.undef) = (AV.rslice (RS.id x5) 0 (RS.n x5)))/\
 (Q (AV.int .i64 (IntKind.wrap .i64 (((RS.n x5:Nat):Int) - 1))) (State.set (State.new (State.set (State.new σ (AObj.cells [(AV.bool true),(AV.bool (b)),AV.nilslice,AV.nilslice,(AV.int .i64 0)] 159 5 false)) (RS.id x1) AObj.dead) (AObj.cells ((List.take ((RS.n x1) * 1) (OE.cs a2)) ++ [(AV.ptr (State.next σ) 0)]) 155 1 true)) (id) (AObj.cells [(AV.rslice ((State.next σ) + 1) 0 ((RS.n x1) + 1)),(OM.tv a3),(OM.tf a3),(AV.int .i64 ((OM.came a3:Nat):Int)),(AV.int .i64 ((OM.gone a3:Nat):Int)),(AV.int .i64 ((OM.work a3:Nat):Int)),(AV.int .i64 ((OM.count a3:Nat):Int))] 153 7 false)))))))))))))))))))):=by kernel_rfl
def N84n:FnHint:=hAt [(1,7,hMN),(1,15,hMN)]
def N84r:FnHint:=hAt [(1,7,hMR),(1,15,hMR),(1,17,hEl 155 1),(1,18,hPtr),(1,21,hI),(3,3,hMR),(3,5,hEl 155 1),(3,6,hPtr)]
theorem vc84n (B:Nat) (w0:World) (G:Nat -> AV) (σ:State) (id:Nat) (i:Int) (Q:AV -> State -> Prop):(bodyC (EV B w0 G) (H0 (EV B w0 G)) (fun _ _ _ _ => False) annA N84n 84 [.ptr id 0,.int .i64 i] σ Q) =
 ((bcase (decide (((i):Int) < 0))
 (Q AV.nilptr σ)
 (∃ a0:OM,(((State.objs σ (id)) = (AObj.cells [(OM.iv a0),(OM.tv a0),(OM.tf a0),(AV.int .i64 ((OM.came a0:Nat):Int)),(AV.int .i64 ((OM.gone a0:Nat):Int)),(AV.int .i64 ((OM.work a0:Nat):Int)),(AV.int .i64 ((OM.count a0:Nat):Int))] 153 7 false))/\
 (((0:Nat) < 7)/\
 (∃ x1:Unit,(((List.getD [OM.iv a0,OM.tv a0,OM.tf a0,AV.int .i64 (↑(OM.came a0):Int),AV.int .i64 (↑(OM.gone a0):Int),AV.int .i64 (↑(OM.work a0):Int),AV.int .i64 (↑(OM.count a0):Int)] 0 AV.undef) = AV.nilslice)/\
 (bcase (decide (((i):Int) ≥ 0))
 (Q AV.nilptr σ)
 (∃ a2:OM,(((State.objs σ (id)) = (AObj.cells [(OM.iv a2),(OM.tv a2),(OM.tf a2),(AV.int .i64 ((OM.came a2:Nat):Int)),(AV.int .i64 ((OM.gone a2:Nat):Int)),(AV.int .i64 ((OM.work a2:Nat):Int)),(AV.int .i64 ((OM.count a2:Nat):Int))] 153 7 false))/\
 (((0:Nat) < 7)/\
 (∃ x3:Unit,(((List.getD [OM.iv a2,OM.tv a2,OM.tf a2,AV.int .i64 (↑(OM.came a2):Int),AV.int .i64 (↑(OM.gone a2):Int),AV.int .i64 (↑(OM.work a2):Int),AV.int .i64 (↑(OM.count a2):Int)] 0 AV.undef) = AV.nilslice)/\
 False))))))))))))):=by kernel_rfl
theorem vc84r (B:Nat) (w0:World) (G:Nat -> AV) (σ:State) (id:Nat) (i:Int) (Q:AV -> State -> Prop):(bodyC (EV B w0 G) (H0 (EV B w0 G)) (fun _ _ _ _ => False) annA N84r 84 [.ptr id 0,.int .i64 i] σ Q) =
 ((bcase (decide (((i):Int) < 0))
 (Q AV.nilptr σ)
 (∃ a0:OM,(((State.objs σ (id)) = (AObj.cells [(OM.iv a0),(OM.tv a0),(OM.tf a0),(AV.int .i64 ((OM.came a0:Nat):Int)),(AV.int .i64 ((OM.gone a0:Nat):Int)),(AV.int .i64 ((OM.work a0:Nat):Int)),(AV.int .i64 ((OM.count a0:Nat):Int))] 153 7 false))/\
 (((0:Nat) < 7)/\
 (∃ x1:RS,(((List.getD [OM.iv a0,OM.tv a0,OM.tf a0,AV.int .i64 (↑(OM.came a0):Int),AV.int .i64 (↑(OM.gone a0):Int),AV.int .i64 (↑(OM.work a0):Int),AV.int .i64 (↑(OM.count a0):Int)] 0 AV.undef) = (AV.rslice (RS.id x1) 0 (RS.n x1)))/\
 (bcase (decide (((i):Int) ≥ ((RS.n x1:Nat):Int)))
 (Q AV.nilptr σ)
 (∃ a2:OM,(((State.objs σ (id)) = (AObj.cells [(OM.iv a2),(OM.tv a2),(OM.tf a2),(AV.int .i64 ((OM.came a2:Nat):Int)),(AV.int .i64 ((OM.gone a2:Nat):Int)),(AV.int .i64 ((OM.work a2:Nat):Int)),(AV.int .i64 ((OM.count a2:Nat):Int))] 153 7 false))/\
 (((0:Nat) < 7)/\
 (∃ x3:RS,(((List.getD [OM.iv a2,OM.tv a2,OM.tf a2,AV.int .i64 (↑(OM.came a2):Int),AV.int .i64 (↑(OM.gone a2):Int),AV.int .i64 (↑(OM.work a2):Int),AV.int .i64 (↑(OM.count a2):Int)] 0 AV.undef) = (AV.rslice (RS.id x3) 0 (RS.n x3)))/\
 (∃ a4:OE,(((State.objs σ (RS.id x3)) = (AObj.cells (OE.cs a4) 155 1 (OE.g a4)))/\
 ((((0:Int) <= (i))/\
 (((i):Int) < ((RS.n x3:Nat):Int)))/\
 (∃ a5:OE,(((State.objs σ (RS.id x3)) = (AObj.cells (OE.cs a5) 155 1 (OE.g a5)))/\
 (((((0 + (Int.toNat (i))) * 1):Nat) < (List.length (OE.cs a5)))/\
 (∃ x6:Nat,(((List.getD (OE.cs a5) ((0 + Int.toNat i) * 1) AV.undef) = (AV.ptr (x6) 0))/\
 (∃ a7:OI,(((State.objs σ (x6)) = (AObj.cells [(AV.bool (OI.op a7)),(AV.bool (OI.fr a7)),(OI.bv a7),(OI.qv a7),(OI.qf a7)] 159 5 false))/\
 (((0:Nat) < 5)/\
 (bcase (!(OI.op a7))
 (Q AV.nilptr σ)
 (∃ a8:OM,(((State.objs σ (id)) = (AObj.cells [(OM.iv a8),(OM.tv a8),(OM.tf a8),(AV.int .i64 ((OM.came a8:Nat):Int)),(AV.int .i64 ((OM.gone a8:Nat):Int)),(AV.int .i64 ((OM.work a8:Nat):Int)),(AV.int .i64 ((OM.count a8:Nat):Int))] 153 7 false))/\
 (((0:Nat) < 7)/\
 (∃ x9:RS,(((List.getD [OM.iv a8,OM.tv a8,OM.tf a8,AV.int .i64 (↑(OM.came a8):Int),AV.int .i64 (↑(OM.gone a8):Int),AV.int .i64 (↑(OM.work a8):Int),AV.int .i64 (↑(OM.count a8):Int)] 0 AV.undef) = (AV.rslice (RS.id x9) 0 (RS.n x9)))/\
 (∃ a10:OE,(((State.objs σ (RS.id x9)) = (AObj.cells (OE.cs a10) 155 1 (OE.g a10)))/\
 ((((0:Int) <= (i))/\
 (((i):Int) < ((RS.n x9:Nat):Int)))/\
 (∃ a11:OE,(((State.objs σ (RS.id x9)) = (AObj.cells (OE.cs a11) 155 1 (OE.g a11)))/\
 (((((0 + (Int.toNat (i))) * 1):Nat) < (List.length (OE.cs a11)))/\
 (∃ x12:Nat,(((List.getD (OE.cs a11) ((0 + Int.toNat i) * 1) AV.undef) = (AV.ptr (x12) 0))/\
 (Q (AV.ptr (x12) 0) σ))))))))))))))))))))))))))))))))))))))):=by kernel_rfl
def N85:FnHint:=hAt [(0,3,hI),(1,3,hM),(1,7,hM),(2,3,hM),(2,7,hM)]
theorem vc85 (B:Nat) (w0:World) (G:Nat -> AV) (σ:State) (id k:Nat) (Q:AV -> State -> Prop):(bodyC (EV B w0 G) (H0 (EV B w0 G)) (fun _ _ _ _ => False) annA N85 85 [.ptr id 0,.ptr k 0] σ Q) =
 ((∃ a0:OI,(((State.objs σ (k)) = (AObj.cells [(AV.bool (OI.op a0)),(AV.bool (OI.fr a0)),(OI.bv a0),(OI.qv a0),(OI.qf a0)] 159 5 false))/\
 (((1:Nat) <= 5)/\
 (∃ a1:OM,(((State.objs (State.set σ (k) (AObj.cells [(AV.bool false),(AV.bool (OI.fr a0)),(OI.bv a0),(OI.qv a0),(OI.qf a0)] 159 5 false)) (id)) = (AObj.cells [(OM.iv a1),(OM.tv a1),(OM.tf a1),(AV.int .i64 ((OM.came a1:Nat):Int)),(AV.int .i64 ((OM.gone a1:Nat):Int)),(AV.int .i64 ((OM.work a1:Nat):Int)),(AV.int .i64 ((OM.count a1:Nat):Int))] 153 7 false))/\
 (((6:Nat) < 7)/\
 (∃ a2:OM,(((State.objs (State.set σ (k) (AObj.cells [(AV.bool false),(AV.bool (OI.fr a0)),(OI.bv a0),(OI.qv a0),(OI.qf a0)] 159 5 false)) (id)) = (AObj.cells [(OM.iv a2),(OM.tv a2),(OM.tf a2),(AV.int .i64 ((OM.came a2:Nat):Int)),(AV.int .i64 ((OM.gone a2:Nat):Int)),(AV.int .i64 ((OM.work a2:Nat):Int)),(AV.int .i64 ((OM.count a2:Nat):Int))] 153 7 false))/\
 (((7:Nat) <= 7)/\
 (∃ a3:OM,(((State.objs (State.set (State.set σ (k) (AObj.cells [(AV.bool false),(AV.bool (OI.fr a0)),(OI.bv a0),(OI.qv a0),(OI.qf a0)] 159 5 false)) (id) (AObj.cells [(OM.iv a2),(OM.tv a2),(OM.tf a2),(AV.int .i64 ((OM.came a2:Nat):Int)),(AV.int .i64 ((OM.gone a2:Nat):Int)),(AV.int .i64 ((OM.work a2:Nat):Int)),(AV.int .i64 (IntKind.wrap .i64 (((OM.count a1:Nat):Int) - 1)))] 153 7 false)) (id)) = (AObj.cells [(OM.iv a3),(OM.tv a3),(OM.tf a3),(AV.int .i64 ((OM.came a3:Nat):Int)),(AV.int .i64 ((OM.gone a3:Nat):Int)),(AV.int .i64 ((OM.work a3:Nat):Int)),(AV.int .i64 ((OM.count a3:Nat):Int))] 153 7 false))/\
 (((5:Nat) < 7)/\
 (∃ a4:OM,(((State.objs (State.set (State.set σ (k) (AObj.cells [(AV.bool false),(AV.bool (OI.fr a0)),(OI.bv a0),(OI.qv a0),(OI.qf a0)] 159 5 false)) (id) (AObj.cells [(OM.iv a2),(OM.tv a2),(OM.tf a2),(AV.int .i64 ((OM.came a2:Nat):Int)),(AV.int .i64 ((OM.gone a2:Nat):Int)),(AV.int .i64 ((OM.work a2:Nat):Int)),(AV.int .i64 (IntKind.wrap .i64 (((OM.count a1:Nat):Int) - 1)))] 153 7 false)) (id)) = (AObj.cells [(OM.iv a4),(OM.tv a4),(OM.tf a4),(AV.int .i64 ((OM.came a4:Nat):Int)),(AV.int .i64 ((OM.gone a4:Nat):Int)),(AV.int .i64 ((OM.work a4:Nat):Int)),(AV.int .i64 ((OM.count a4:Nat):Int))] 153 7 false))/\
 (((6:Nat) <= 7)/\
 (Q (AV.tuple []) (State.set (State.set (State.set σ (k) (AObj.cells [(AV.bool false),(AV.bool (OI.fr a0)),(OI.bv a0),(OI.qv a0),(OI.qf a0)] 159 5 false)) (id) (AObj.cells [(OM.iv a2),(OM.tv a2),(OM.tf a2),(AV.int .i64 ((OM.came a2:Nat):Int)),(AV.int .i64 ((OM.gone a2:Nat):Int)),(AV.int .i64 ((OM.work a2:Nat):Int)),(AV.int .i64 (IntKind.wrap .i64 (((OM.count a1:Nat):Int) - 1)))] 153 7 false)) (id) (AObj.cells [(OM.iv a4),(OM.tv a4),(OM.tf a4),(AV.int .i64 ((OM.came a4:Nat):Int)),(AV.int .i64 ((OM.gone a4:Nat):Int)),(AV.int .i64 (IntKind.wrap .i64 (((OM.work a3:Nat):Int) + 1))),(AV.int .i64 ((OM.count a4:Nat):Int))] 153 7 false))))))))))))))))))):=by kernel_rfl
end Go.V
/- Small methods of a merger: contracts. -/
namespace Go.V
open Go Go.Proofs

theorem ex_OM {p:OM -> Prop}:(∃ x:OM,p x) ↔ ∃ iv tv tf a b d e,p ⟨iv,tv,tf,a,b,d,e⟩:=⟨fun ⟨⟨a,b,c,d,e,f,g⟩,h⟩ => ⟨a,b,c,d,e,f,g,h⟩,fun ⟨a,b,c,d,e,f,g,h⟩ => ⟨⟨a,b,c,d,e,f,g⟩,h⟩⟩
theorem ex_OI {p:OI -> Prop}:(∃ x:OI,p x) ↔ ∃ op fr bv qv qf,p ⟨op,fr,bv,qv,qf⟩:=⟨fun ⟨⟨a,b,c,d,e⟩,h⟩ => ⟨a,b,c,d,e,h⟩,fun ⟨a,b,c,d,e,h⟩ => ⟨⟨a,b,c,d,e⟩,h⟩⟩
theorem nat_inj {a b:Nat}:((a:Int) = (b:Int)) ↔ a = b:=Int.ofNat_inj

def PM.opened (p:PM) (i:Int):Option Nat:=if 0 <= i /\ i < p.I.length /\ (p.at i.toNat).op = true then some i.toNat else none
def PM.setI (p:PM) (k:Nat) (x:PI):PM:={ p with I:=p.I.set k x }
theorem PM.setI_at {p:PM} {k j:Nat} {x:PI} (hk:k < p.I.length):(p.setI k x).at j = if j = k then x else p.at j:=by
 unfold PM.setI PM.at
 simp only [List.getD,List.getElem?_set]
 by_cases h:k = j
 ·subst h; simp [hk]
 ·rw [if_neg h,if_neg fun e => h e.symm]

theorem Rep.obM {c:MH} {L:ML} {p:PM} {σ:State} (h:Rep c L p) (hA:At c σ):σ.objs L.M = .cells [L.iv,L.tv,.int .i64 (L.tf:Int),.int .i64 (p.came:Int),.int .i64 (p.gone:Int),.int .i64 (p.work:Int),.int .i64 (p.count:Int)] 153 7 false:=hA.obj h.m

theorem Rep.upd {c c':MH} {L L':ML} {p p':PM} (h:Rep c L p) (hm:c' .m = some (L'.M,.cells (mcells L' p') 153 7 false)) (hids:L'.ids = L.ids) (hiv:L'.iv = L.iv) (hins:c' .ins = c .ins)
  (hturn:QuAt c' .turn 3 1 L'.tv L'.tf p'.turn.length (intsV p'.turn)) (hlen:p'.I.length = p.I.length) (hinp:∀ k (hk:k < L.ids.length),InpAt c' k L.ids[k] (p'.at k)):Rep c' L' p' where
 m:=hm
 ins:=by rw [hids,hiv]; exact h.ins.congr hins
 turn:=hturn
 len:=by rw [hids,hlen]; exact h.len
 inp:=by rw [hids]; exact hinp

def MRole.own:MRole -> Bool
 | .x _ => false
 | _ => true
def Frame' (c c':MH):Prop:=∀ i,c' (.x i) = c (.x i)
theorem Frame'.refl (c:MH):Frame' c c:=fun _ => rfl
theorem Frame'.trans {c c' c'':MH} (h:Frame' c c') (k:Frame' c' c''):Frame' c c'':=fun i => (k i).trans (h i)
theorem Same.frame {c c':MH} {l:List MRole} (h:Same c c' l) (hl:∀ q ∈ l,q.own = true):Frame' c c':=fun i => h _ fun hm => by have:=hl _ hm; cases this

def C84m:Contract:=fun args σ K => ∃ (c:MH) (L:ML) (p:PM) (i:Int),args = [.ptr L.M 0,.int .i64 i] /\ (At c σ /\ Rep c L p) /\
 ((p.opened i = none -> K .nilptr σ) /\ ∀ (k id:Nat),p.opened i = some k -> L.ids[k]? = some id -> K (.ptr id 0) σ)
def C85m:Contract:=fun args σ K => ∃ (c:MH) (L:ML) (p:PM) (k id:Nat),args = [.ptr L.M 0,.ptr id 0] /\ (At c σ /\ Rep c L p /\ L.ids[k]? = some id /\ 1 <= p.count /\ p.count <= 1000000 /\ p.work <= 1000000) /\
 ∀ (c':MH) (σ':State),(At c' σ' /\ Rep c' L { p.setI k { p.at k with op:=false } with count:=p.count - 1,work:=p.work + 1 } /\ Same c c' [.m,.inp k]) -> K (.tuple []) σ'
def C83m:Contract:=fun args σ K => ∃ (c:MH) (L:ML) (p:PM) (b:Bool),args = [.ptr L.M 0,.bool b] /\ (At c σ /\ Rep c L p /\ p.I.length <= 1000000) /\
 ∀ (c':MH) (L':ML) (σ':State),(At c' σ' /\ L'.M = L.M /\ Rep c' L' { p with I:=p.I ++ [⟨true,b,[],[]⟩] } /\ Same c c' [.m,.ins,.inp p.I.length] /\ (∀ (k:Nat) (id:Nat),L.ids[k]? = some id -> L'.ids[k]? = some id)) -> K (.int .i64 (p.I.length:Int)) σ'

theorem PM.at_append {p:PM} {x:PI} {j:Nat} (h:j < p.I.length):PM.at { p with I:=p.I ++ [x] } j = p.at j:=by
 unfold PM.at
 simp only [List.getD]
 rw [List.getElem?_append_left h]
theorem PM.at_new {p:PM} {x:PI}:PM.at { p with I:=p.I ++ [x] } p.I.length = x:=by
 unfold PM.at
 simp [List.getD]
theorem ptrsV_append (l m:List Nat):ptrsV (l ++ m) = ptrsV l ++ ptrsV m:=List.map_append

section
variable {B:Nat} {w0:World} {G:Nat -> AV}

theorem c84_ok:ContractOk (EV B w0 G) 84 C84m:=by
 rintro args σ Q ⟨c,L,p,i,rfl,⟨hA,hR⟩,hQ1,hQ2⟩
 have hM:=hR.obM hA
 have hlen:=hR.len
 rcases hR.ins.inv with ⟨e,hnil⟩ | ⟨tid,m,g,e,hs,hml⟩
 ·rw [e] at hM
  have h0:p.I.length = 0:=by
   have:=congrArg List.length hnil
   rw [ptrsV_len] at this
   rw [<-hlen]; exact this
  have hno:p.opened i = none:=by unfold PM.opened; rw [if_neg (by omega)]
  refine bodyC_ok (EV_mixed B w0 G) (hnd_ok (EV_mixed B w0 G) contracts_nil) (fun l hl _ Q a σ k => k.elim) ((vc84n B w0 G σ L.M i _).mpr ?_)
  simp only [ex_OM,hM,AObj.cells.injEq,List.cons.injEq,AV.int.injEq,nat_inj,eq_self,true_and,and_true,exists_eq_left',exists_eq_left,exists_and_left,exists_and_right,and_assoc,exists_eq',exists_const,List.getD_cons_zero,List.getD_cons_succ,Nat.reduceLT]
  refine bcase_of (fun _ => hQ1 hno) (fun h => bcase_of (fun _ => hQ1 hno) (fun h2 => ?_))
  have h:=of_decide_eq_false h
  have h2:=of_decide_eq_false h2
  omega
 ·rw [e] at hM
  have hid':=hA.obj hs
  have hml':L.ids.length = m:=by rw [ptrsV_len] at hml; omega
  refine bodyC_ok (EV_mixed B w0 G) (hnd_ok (EV_mixed B w0 G) contracts_nil) (fun l hl _ Q a σ k => k.elim) ((vc84r B w0 G σ L.M i _).mpr ?_)
  simp only [ex_OM,ex_OE,ex_RS,ex_OI,hM,AObj.cells.injEq,List.cons.injEq,AV.int.injEq,AV.ptr.injEq,AV.bool.injEq,AV.rslice.injEq,nat_inj,Nat.zero_add,Nat.mul_one,Int.toNat_natCast,eq_self,true_and,and_true,exists_eq_left',exists_eq_left,exists_and_left,exists_and_right,and_assoc,exists_eq',exists_const,List.getD_cons_zero,List.getD_cons_succ,Nat.reduceLT]
  have no:¬ (0 <= i /\ i < p.I.length) -> p.opened i = none:=fun h => by unfold PM.opened; rw [if_neg fun k => h ⟨k.1,k.2.1⟩]
  refine bcase_of (fun h => hQ1 (no fun k => ?_)) (fun h => bcase_of (fun h2 => hQ1 (no fun k => ?_)) (fun h2 => ?_))
  ·have h:=of_decide_eq_true h; omega
  ·have h2:=of_decide_eq_true h2; omega
  have h:=of_decide_eq_false h
  have h2:=of_decide_eq_false h2
  obtain ⟨k,rfl⟩:∃ k:Nat,i = (k:Int):=⟨i.toNat,by omega⟩
  have hk:k < L.ids.length:=by omega
  obtain ⟨bv,qv,qf,hob,_⟩:=(hR.inp k hk).ex
  have hobj:=hA.obj hob
  have hget:List.getD (ptrsV L.ids) k .undef = .ptr L.ids[k] 0:=ptrsV_get hk
  simp only [ex_OM,ex_OE,ex_RS,ex_OI,hid',hobj,hget,ptrsV_len,AObj.cells.injEq,List.cons.injEq,AV.int.injEq,AV.ptr.injEq,AV.bool.injEq,AV.rslice.injEq,nat_inj,Nat.zero_add,Nat.mul_one,Int.toNat_natCast,eq_self,true_and,and_true,exists_eq_left',exists_eq_left,exists_and_left,exists_and_right,and_assoc,exists_eq',exists_const,List.getD_cons_zero,List.getD_cons_succ,Nat.reduceLT]
  have hop:(p.at k).op = true -> p.opened (k:Int) = some k:=fun h => by
   unfold PM.opened
   rw [if_pos ⟨by omega,by omega,by rw [Int.toNat_natCast]; exact h⟩,Int.toNat_natCast]
  refine ⟨by omega,by omega,by omega,bcase_of (fun h3 => hQ1 ?_) (fun h3 => ⟨by omega,by omega,by omega,hQ2 k L.ids[k] (hop (by simpa using h3)) (List.getElem?_eq_getElem hk)⟩)⟩
  unfold PM.opened
  rw [if_neg fun k => by rw [Int.toNat_natCast] at k; rw [k.2.2] at h3; cases h3]

theorem c85_ok:ContractOk (EV B w0 G) 85 C85m:=by
 rintro args σ Q ⟨c,L,p,k,id,rfl,⟨hA,hR,hk,hc1,hc2,hw⟩,hQ⟩
 have hM:=hR.obM hA
 obtain ⟨hkl,hke⟩:=List.getElem?_eq_some_iff.1 hk
 obtain ⟨bv,qv,qf,hob,hb,hq⟩:=(hR.inp k hkl).ex
 rw [hke] at hob
 have hobj:=hA.obj hob
 have hne:L.M ≠ id:=hA.ne hR.m hob (by simp)
 have hne2:id ≠ L.M:=fun e => hne e.symm
 refine bodyC_ok (EV_mixed B w0 G) (hnd_ok (EV_mixed B w0 G) contracts_nil) (fun l hl _ Q a σ k => k.elim) ((vc85 B w0 G σ L.M id _).mpr ?_)
 have w1:IntKind.wrap .i64 ((p.count:Int) - 1) = ((p.count - 1:Nat):Int):=by rw [wr_small (by omega) (by omega)]; omega
 have w2:IntKind.wrap .i64 ((p.work:Int) + 1) = ((p.work + 1:Nat):Int):=by rw [wr_small (by omega) (by omega)]; omega
 simp only [hM,hobj,hne,hne2,w1,w2,ex_OM,ex_OE,ex_RS,ex_OI,objs_set,objs_new,next_set,next_new,if_true,if_false,AObj.cells.injEq,List.cons.injEq,AV.int.injEq,AV.ptr.injEq,AV.bool.injEq,AV.rslice.injEq,nat_inj,Nat.zero_add,Nat.mul_one,Int.toNat_natCast,eq_self,true_and,and_true,exists_eq_left',exists_eq_left,exists_and_left,exists_and_right,and_assoc,exists_eq',exists_const,List.getD_cons_zero,List.getD_cons_succ,Nat.reduceLT,Nat.reduceLeDiff]
 exact hQ _ _ ⟨((hA.set hob _).set ((hup_ne (by simp)).trans hR.m) _).set hup_self _,hR.upd hup_self rfl rfl (by simp [hup]) (hR.turn.congr (by simp [hup])) List.length_set (fun j hj => by
  show InpAt _ j _ ((p.setI k _).at j)
  rw [PM.setI_at (by rw [<-hR.len]; exact hkl)]
  by_cases h:j = k
  ·subst h
   rw [if_pos rfl,hke]
   exact ⟨bv,qv,qf,by simp [hup],hb.congr (by simp [hup]),hq.congr (by simp [hup])⟩
  ·rw [if_neg h]
   exact (hR.inp j hj).congr (by simp [hup,h]) (by simp [hup]) (by simp [hup])),((Same.hup (by simp)).trans (Same.hup (by simp))).trans (Same.hup (by simp))⟩


theorem c83_ok:ContractOk (EV B w0 G) 83 C83m:=by
 rintro args σ Q ⟨c,L,p,b,rfl,⟨hA,hR,hn⟩,hQ⟩
 have hM:=hR.obM hA
 have hlt:=hA.lt hR.m
 have hlen:=hR.len
 rcases hR.ins.inv with ⟨e,hnil⟩ | ⟨tid,m,g,e,hs,hml⟩
 ·rw [e] at hM
  have hids:L.ids = []:=by
   have:=congrArg List.length hnil
   rw [ptrsV_len] at this
   exact List.length_eq_zero_iff.1 this
  have h0:p.I.length = 0:=by rw [<-hlen,hids]; rfl
  have hne:L.M ≠ σ.next:=by omega
  have hne2:L.M ≠ σ.next + 1:=by omega
  have w:IntKind.wrap .i64 ((1:Nat) - 1:Int) = ((p.I.length:Nat):Int):=by rw [h0]; rfl
  refine bodyC_ok (EV_mixed B w0 G) (hnd_ok (EV_mixed B w0 G) contracts_nil) (fun l hl _ Q a σ k => k.elim) ((vc83n B w0 G σ L.M b _).mpr ?_)
  simp only [hM,hne,hne2,w,ex_OM,ex_OE,ex_RS,ex_OI,objs_set,objs_new,next_set,next_new,if_true,if_false,AObj.cells.injEq,List.cons.injEq,AV.int.injEq,AV.ptr.injEq,AV.bool.injEq,AV.rslice.injEq,nat_inj,Nat.zero_add,Nat.mul_one,Int.toNat_natCast,eq_self,true_and,and_true,exists_eq_left',exists_eq_left,exists_and_left,exists_and_right,and_assoc,exists_eq',exists_const,List.getD_cons_zero,List.getD_cons_succ,Nat.reduceLT,Nat.reduceLeDiff]
  refine hQ _ { L with iv:=.rslice (σ.next + 1) 0 1,ids:=[σ.next] } _ ⟨((hA.new (.inp p.I.length) _).new .ins _).set ((hup_ne (by simp)).trans ((hup_ne (by simp)).trans hR.m)) _,rfl,⟨hup_self,.row (σ.next + 1) 1 true _ (by simp [hup]; exact ⟨rfl,rfl⟩) rfl,hR.turn.congr (by simp [hup]),by simp [h0],fun j hj => ?_⟩,(((Same.hup (by simp)).trans (Same.hup (by simp))).trans (Same.hup (by simp))),fun k id hk => by rw [hids] at hk; cases hk⟩
  have hj0:j = p.I.length:=by
   have:j < 1:=hj
   omega
  subst hj0
  rw [PM.at_new]
  have e0:([σ.next]:List Nat)[p.I.length]'(by simp [h0]) = σ.next:=by simp [h0]
  show InpAt _ _ ([σ.next]:List Nat)[p.I.length] _
  rw [e0]
  exact ⟨.nilslice,.nilslice,0,by simp [hup],.nil,[],.nil,rfl,rfl,by omega⟩

 ·rw [e] at hM
  have hid':=hA.obj hs
  have hlt':=hA.lt hs
  rw [ptrsV_len] at hml
  have hne:L.M ≠ σ.next:=by omega
  have hne2:L.M ≠ σ.next + 1:=by omega
  have hne3:L.M ≠ tid:=hA.ne hR.m hs (by simp)
  have hne4:tid ≠ σ.next:=by omega
  refine bodyC_ok (EV_mixed B w0 G) (hnd_ok (EV_mixed B w0 G) contracts_nil) (fun l hl _ Q a σ k => k.elim) ((vc83r B w0 G σ L.M b _).mpr ?_)
  simp only [hM,hid',hne,hne2,hne3,hne4,ex_OM,ex_OE,ex_RS,ex_OI,objs_set,objs_new,next_set,next_new,if_true,if_false,AObj.cells.injEq,List.cons.injEq,AV.int.injEq,AV.ptr.injEq,AV.bool.injEq,AV.rslice.injEq,nat_inj,Nat.zero_add,Nat.mul_one,Int.toNat_natCast,eq_self,true_and,and_true,exists_eq_left',exists_eq_left,exists_and_left,exists_and_right,and_assoc,exists_eq',exists_const,List.getD_cons_zero,List.getD_cons_succ,Nat.reduceLT,Nat.reduceLeDiff]
  refine ⟨by omega,by omega,by rw [ptrsV_len]; omega,?_⟩
  have hn':p.I.length = m:=by omega
  have w:IntKind.wrap .i64 (((m + 1:Nat):Int) - 1) = ((p.I.length:Nat):Int):=by rw [wr_small (by omega) (by omega)]; omega
  have htake:List.take m (ptrsV L.ids) = ptrsV L.ids:=List.take_of_length_le (by rw [ptrsV_len]; omega)
  rw [w,htake]
  have e2:ptrsV L.ids ++ [AV.ptr σ.next 0] = ptrsV (L.ids ++ [σ.next]):=(ptrsV_append L.ids [σ.next]).symm
  rw [e2]
  refine hQ _ { L with iv:=.rslice (σ.next + 1) 0 (m + 1),ids:=L.ids ++ [σ.next] } _ ⟨((hA.new (.inp p.I.length) _).grow ((hup_ne (by simp)).trans hs) _).set ((hup_ne (by simp)).trans ((hup_ne (by simp)).trans hR.m)) _,rfl,⟨hup_self,.row (σ.next + 1) (m + 1) true _ (by simp [hup]; rfl) (by rw [ptrsV_len]; simp; omega),hR.turn.congr (by simp [hup]),by simp [hlen],fun j hj => ?_⟩,(((Same.hup (by simp)).trans (Same.hup (by simp))).trans (Same.hup (by simp))),fun k id hk => by
   have:=(List.getElem?_eq_some_iff.1 hk).1
   show (L.ids ++ [σ.next])[k]? = _
   rw [List.getElem?_append_left this]; exact hk⟩
  have hj:j < L.ids.length + 1:=by simpa using hj
  by_cases hjl:j < L.ids.length
  ·rw [PM.at_append (by omega)]
   have e3:(L.ids ++ [σ.next])[j]'(by simp; omega) = L.ids[j]:=List.getElem_append_left hjl
   show InpAt _ _ (L.ids ++ [σ.next])[j] _
   rw [e3]
   exact (hR.inp j hjl).congr (by simp [hup]; omega) (by simp [hup]) (by simp [hup])
  ·have hj0:j = p.I.length:=by omega
   subst hj0
   rw [PM.at_new]
   have e3:(L.ids ++ [σ.next])[p.I.length]'(by simp; omega) = σ.next:=by
    rw [List.getElem_append_right (by omega)]; simp [hlen]
   show InpAt _ _ (L.ids ++ [σ.next])[p.I.length] _
   rw [e3]
   exact ⟨.nilslice,.nilslice,0,by simp [hup],.nil,[],.nil,rfl,rfl,by omega⟩

end
end Go.V
