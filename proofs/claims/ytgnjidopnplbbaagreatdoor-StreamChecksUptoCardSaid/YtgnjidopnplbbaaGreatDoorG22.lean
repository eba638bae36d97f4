import Derived.Test.YtgnjidopnplbbaaGreatDoorG21
/- What the program keeps of a merger, and what it is in plain terms. -/
set_option linter.unusedSimpArgs false
set_option linter.unusedVariables false
namespace Go.V

def kids (m:RM) (fr:Nat -> Bool) (k:Nat):List Nat:=(List.range m.I.length).filter fun i => !fr i && decide ((m.at i).bh = (k:Int))
theorem mem_kids {m:RM} {fr:Nat -> Bool} {k i:Nat}:i ∈ kids m fr k ↔ i < m.I.length /\ fr i = false /\ (m.at i).bh = (k:Int):=by
 unfold kids
 simp [List.mem_filter,List.mem_range]
structure Abs0 (p:PM) (m:RM):Prop where
 len:p.I.length = m.I.length
 op:∀ k,(p.at k).op = (m.at k).op
 fr:∀ k,(p.at k).fr = (m.at k).fr
 q:∀ k,(p.at k).q = (m.at k).q
 beh:∀ k,k < m.I.length -> (p.at k).beh = kids m (fun i => (m.at i).fr) k
 turn:p.turn = m.turn
 work:p.work = m.work
 came:p.came = m.puts

end Go.V
/- What a merger does, in plain terms; what stays true of it. -/
namespace Go.V

def RM.setI (m:RM) (k:Nat) (x:RI):RM:={ m with I:=m.I.set k x }
def RM.put1 (m:RM) (k:Nat) (t:T):RM :=
 ⟨m.I.set k { m.at k with q:=(m.at k).q ++ [t] },if (m.at k).fr && (m.at k).q.isEmpty then m.turn ++ [k] else m.turn,m.work + 1,m.puts + 1⟩
def RM.put (m:RM) (i:Int) (t:T):RM × Int:=match m.opened i with
 | none => (m,90)
 | some k => if chkT t ≠ 0 then (m,3) else if 20000 <= m.puts then (m,91) else (m.put1 k t,0)
def RM.shut (m:RM) (k:Nat):RM:=⟨m.I.set k { m.at k with op:=false },m.turn,m.work + 1,m.puts⟩
def RM.close (m:RM) (i:Int):RM × Int:=match m.opened i with
 | none => (m,90)
 | some k => ((m.shut k).fresh,0)
def RM.split1 (m:RM) (k n:Nat):RM:=⟨m.I ++ List.replicate n ⟨[],true,false,(k:Int)⟩,m.turn,m.work + n,m.puts⟩
def RM.split (m:RM) (i n:Int):RM × List Nat × Int:=match m.opened i with
 | none => (m,[],90)
 | some k => if n < 0 \/ 64 < n then (m,[],1) else if 4096 < (m.I.length:Int) + n then (m,[],2) else (((m.shut k).split1 k n.toNat).fresh,List.range' m.I.length n.toNat,0)
def RM.take1 (m:RM) (k:Nat) (r:List Nat) (q:List T):RM:=⟨m.I.set k { m.at k with q:=q },r,m.work + 1,m.puts⟩
def RM.back (m:RM) (k:Nat) (q:List T):RM:={ m with turn:=if q.isEmpty then m.turn else m.turn ++ [k] }
def RM.next (m:RM):RM × Option (Nat × T):=match m.turn with
 | [] => (m,none)
 | k :: r => match (m.at k).q with
  | [] => (m,none)
  | t :: q => ((m.take1 k r q).fresh.back k q,some (k,t))
def RM.sumI (m:RM) (g:RI -> Nat):Nat:=(m.I.map g).sum
def RM.qsum (m:RM):Nat:=m.sumI fun x => x.q.length
def RM.opens (m:RM):Nat:=m.sumI fun x => if x.op then 1 else 0
def RM.done (m:RM):Bool:=m.I.all RI.dead
def RM.inputs (m:RM):List Nat:=(List.range m.I.length).filter fun i => (m.at i).op

theorem le_sum {g:RI -> Nat}:∀ (l:List RI) (k:Nat),g RI.no = 0 -> g (l.getD k RI.no) <= (l.map g).sum
 | [],k,h => by simp [List.getD,h]
 | y :: l,0,h => by simp [List.getD]
 | y :: l,k + 1,h => by
  have:=le_sum l k h
  simp [List.getD] at this ⊢
  omega
theorem q_le (m:RM) (k:Nat):(m.at k).q.length <= m.qsum:=le_sum (g:=fun x:RI => x.q.length) m.I k rfl
structure RM.Wf0 (m:RM) (x:Nat -> Prop):Prop where
 len:m.I.length <= 4096
 puts:m.puts <= 20000
 rk:∀ i,i < m.I.length -> -1 <= (m.at i).bh /\ (m.at i).bh < i
 rt:∀ i,i < m.I.length -> (m.at i).bh = -1 -> (m.at i).fr = true
 an:∀ i,i < m.I.length -> (m.at i).fr = true -> (m.at i).bh = -1 \/ ((m.at (m.at i).bh.toNat).fr = true /\ (m.at (m.at i).bh.toNat).dead = true)
 bo:∀ i,i < m.I.length -> (m.at i).bh ≠ -1 -> (m.at (m.at i).bh.toNat).op = false
 tn:m.turn.Nodup
 tm:∀ j,j ∈ m.turn ↔ j < m.I.length /\ (m.at j).fr = true /\ (m.at j).q ≠ [] /\ ¬ x j
 chk:∀ k,∀ t ∈ (m.at k).q,chkT t = 0
 qp:m.qsum <= m.puts
 wk:m.work + m.qsum + m.opens = 2 * m.I.length + 2 * m.puts
theorem RM.Wf0.work {m:RM} {x:Nat -> Prop} (h:m.Wf0 x):m.work <= 50000:=by
 have:=h.wk; have:=h.len; have:=h.puts; omega

end Go.V
/- What stays true of a merger: each step. -/
namespace Go.V

end Go.V
/- What the program keeps of a merger: each step. -/
namespace Go.V

theorem count_le {l:List Nat} {P:Nat -> Bool} {b:Nat -> Int}:∀ n:Nat,((List.range n).map fun (k:Nat) => (l.filter fun i => P i && decide (b i = (k:Int))).length).sum <= (l.filter fun i => decide (b i < (n:Int))).length:=by
 intro n
 induction n with
 | zero => simp
 | succ n ih =>
  rw [List.range_succ,List.map_append,List.sum_append]
  simp only [List.map_cons,List.map_nil,List.sum_cons,List.sum_nil,Nat.add_zero]
  refine Nat.le_trans (Nat.add_le_add_right ih _) ?_
  clear ih
  show _ <= (l.filter fun i => decide (b i < (n:Int) + 1)).length
  induction l with
  | nil => simp
  | cons i l ih =>
   simp only [List.filter_cons]
   by_cases h1:b i < (n:Int)
   ·rw [decide_eq_true h1,decide_eq_false (show ¬ b i = (n:Int) by omega),decide_eq_true (show b i < (n:Int) + 1 by omega)]
    simp; omega
   ·by_cases h2:b i = (n:Int)
    ·rw [decide_eq_false h1,decide_eq_true h2,decide_eq_true (show b i < (n:Int) + 1 by omega)]
     cases P i <;> simp <;> omega
    ·rw [decide_eq_false h1,decide_eq_false h2,decide_eq_false (show ¬ b i < (n:Int) + 1 by omega)]
     simp; omega

theorem PM.mapI {α:Type} (p:PM) (g:PI -> α):p.I.map g = (List.range p.I.length).map fun k => g (p.at k):=by
 refine List.ext_getElem (by simp) fun i h1 h2 => ?_
 simp at h1
 simp [PM.at,List.getD,List.getElem?_eq_getElem h1]
theorem Abs0.T {p:PM} {m:RM} (h:Abs0 p m):p.T <= m.I.length:=by
 unfold PM.T
 rw [PM.mapI,h.len]
 have e:((List.range m.I.length).map fun k => (p.at k).beh.length) = (List.range m.I.length).map fun (k:Nat) => ((List.range m.I.length).filter fun i => !(m.at i).fr && decide ((m.at i).bh = (k:Int))).length :=
  List.map_congr_left fun k hk => by rw [h.beh k (List.mem_range.1 hk)]; rfl
 rw [e]
 refine Nat.le_trans (count_le (P:=fun i => !(m.at i).fr) (b:=fun i => (m.at i).bh) _) (Nat.le_trans (List.length_filter_le _ _) (by simp))
theorem Abs0.ok {p:PM} {m:RM} {x:Nat -> Prop} (h:Abs0 p m) (hw:m.Wf0 x):p.Ok where
 beh k i hi:=by
  by_cases hk:k < m.I.length
  ·rw [h.beh k hk,mem_kids] at hi
   rw [h.len]; exact hi.1
  ·rw [at_beh_nil (by rw [h.len]; omega)] at hi; cases hi
 q k:=by
  rw [h.q]
  have:=q_le m k
  have:=hw.qp
  have:=hw.puts
  omega
theorem Abs0.opened {p:PM} {m:RM} (h:Abs0 p m) (i:Int):p.opened i = m.opened i:=by
 unfold PM.opened RM.opened
 rw [h.len,h.op]

end Go.V
