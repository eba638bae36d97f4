import Derived.Test.YtgnjidopnplbbaaGreatDoorN20
/- What the program keeps of a merger, and what it is in plain terms. -/
set_option linter.unusedSimpArgs false
set_option linter.unusedVariables false
namespace Go.V

def kids (m:RM) (fr:Nat -> Bool) (k:Nat):List Nat:=(List.range m.I.length).filter fun i => !fr i && decide ((m.at i).bh = (k:Int))
theorem mem_kids {m:RM} {fr:Nat -> Bool} {k i:Nat}:i ∈ kids m fr k ↔ i < m.I.length /\ fr i = false /\ (m.at i).bh = (k:Int):=by
 unfold kids
 simp [List.mem_filter,List.mem_range]
theorem kids_congr {m:RM} {fr fr':Nat -> Bool} {k:Nat} (h:∀ i,i < m.I.length -> (m.at i).bh = (k:Int) -> fr i = fr' i):kids m fr k = kids m fr' k:=by
 unfold kids
 refine List.filter_congr fun i hi => ?_
 have hi:=List.mem_range.1 hi
 by_cases hb:(m.at i).bh = (k:Int)
 ·rw [h i hi hb]
 ·simp [hb]

structure Abs0 (p:PM) (m:RM):Prop where
 len:p.I.length = m.I.length
 op:∀ k,(p.at k).op = (m.at k).op
 fr:∀ k,(p.at k).fr = (m.at k).fr
 q:∀ k,(p.at k).q = (m.at k).q
 beh:∀ k,k < m.I.length -> (p.at k).beh = kids m (fun i => (m.at i).fr) k
 turn:p.turn = m.turn
 work:p.work = m.work
 came:p.came = m.puts

structure J87 (p:PM) (m:RM) (q:PM) (td now:List Nat):Prop where
 len:q.I.length = m.I.length
 op:∀ i,(q.at i).op = (m.at i).op
 qs:∀ i,(q.at i).q = (m.at i).q
 fr:∀ i,(q.at i).fr = ((m.at i).fr || decide (i ∈ now))
 nd:now.Nodup
 now:∀ i ∈ now,i < m.I.length /\ (m.at i).fr = false /\ (q.at (m.at i).bh.toNat).fr = true /\ (m.at (m.at i).bh.toNat).dead = true
 cl:∀ b:Nat,(q.at b).fr = true -> (m.at b).dead = true -> b ∈ td \/ ∀ i,i < m.I.length -> (m.at i).bh = (b:Int) -> (q.at i).fr = true
 beh:∀ b,b < m.I.length -> (q.at b).beh = kids m (fun i => (q.at i).fr) b
 rest:q.turn = p.turn /\ q.work = p.work /\ q.came = p.came /\ q.gone = p.gone /\ q.count = p.count

theorem freeAll_rest:∀ (l:List Nat) (p:PM),(freeAll p l).turn = p.turn /\ (freeAll p l).work = p.work /\ (freeAll p l).came = p.came /\ (freeAll p l).gone = p.gone /\ (freeAll p l).count = p.count
 | [],p => ⟨rfl,rfl,rfl,rfl,rfl⟩
 | i :: l,p => freeAll_rest l (freeOne p i)

theorem dead_iff {m:RM} {b:Nat}:(m.at b).dead = true ↔ (m.at b).op = false /\ (m.at b).q = []:=by
 unfold RI.dead; simp [List.isEmpty_iff]

theorem reach_J {p:PM} {m:RM} {k:Nat} (h:Abs0 p m) (hok:p.Ok) (hr:m.Ranked) (hk:k < m.I.length)
  (hcl:∀ i,i < m.I.length -> (m.at i).fr = false -> (m.at i).bh ≠ (k:Int) -> ¬ ((m.at (m.at i).bh.toNat).fr = true /\ (m.at (m.at i).bh.toNat).dead = true)) {q:PM} {td now:List Nat} (hf:FReach p [k] [] q td now):J87 p m q td now:=by
 induction hf with
 | refl =>
  refine ⟨h.len,h.op,h.q,fun i => by rw [h.fr]; simp,List.nodup_nil,fun i hi => (by cases hi),fun b h1 h2 => ?_,fun b hb => ?_,rfl,rfl,rfl,rfl,rfl⟩
  ·by_cases hbk:b = k
   ·left; rw [hbk]; simp
   ·right
    intro i hi hib
    rw [h.fr]
    cases hfi:(m.at i).fr with
    | true => rfl
    | false =>
     have:=hcl i hi hfi (by rw [hib]; intro e; exact hbk (by omega))
     rw [hib,Int.toNat_natCast] at this
     exact absurd ⟨by rw [<-h.fr]; exact h1,h2⟩ this
  ·rw [h.beh b hb]
   exact kids_congr fun i _ _ => (h.fr i).symm
 | @skip q td now j hf ha ih =>
  refine { ih with cl:=fun b h1 h2 => ?_ }
  rcases ih.cl b h1 h2 with hb | hb
  ·rcases List.mem_append.1 hb with hb | hb
   ·exact .inl hb
   ·simp at hb
    subst hb
    obtain ⟨h3,h4⟩:=dead_iff.1 h2
    exact absurd ⟨h1,by rw [ih.op]; exact h3,by rw [ih.qs]; exact h4⟩ ha
  ·exact .inr hb
 | @go q td now j hf ha ih =>
  obtain ⟨_,g2,g3,g4⟩:=hf.now_mem hok h.len (by simp; exact hk)
  have hj:j < m.I.length:=g2 j (List.mem_append_right _ (List.mem_singleton_self _))
  have hjq:j < q.I.length:=by omega
  obtain ⟨a1,a2,a3⟩:=ha
  have hdj:(m.at j).dead = true:=dead_iff.2 ⟨by rw [<-ih.op]; exact a2,by rw [<-ih.qs]; exact a3⟩
  have hat:∀ i,(fire q j).at i = { q.at i with fr:=(q.at i).fr || decide (i ∈ (q.at j).beh),beh:=if i = j then [] else (q.at i).beh }:=fun i => fire_at hjq g3
  have hmk:∀ i,i ∈ (q.at j).beh ↔ i < m.I.length /\ (q.at i).fr = false /\ (m.at i).bh = (j:Int):=fun i => by rw [ih.beh j hj,mem_kids]
  have hfr':∀ i,((fire q j).at i).fr = ((q.at i).fr || decide (i ∈ (q.at j).beh)):=fun i => by rw [hat]
  have hmono:∀ i,(q.at i).fr = true -> ((fire q j).at i).fr = true:=fun i hi => by rw [hfr',hi]; rfl
  obtain ⟨r1,r2,r3,r4,r5⟩:=freeAll_rest (q.at j).beh q
  obtain ⟨s1,s2,s3,s4,s5⟩:=ih.rest
  refine ⟨(fire_len q j).trans g4,fun i => by rw [hat]; exact ih.op i,fun i => by rw [hat]; exact ih.qs i,fun i => ?_,?_,fun i hi => ?_,fun b h1 h2 => ?_,fun b hb => ?_,r1.trans s1,r2.trans s2,r3.trans s3,r4.trans s4,r5.trans s5⟩
  ·rw [hfr',ih.fr i]
   simp [List.mem_append,Bool.or_assoc]
  ·refine List.nodup_append.2 ⟨ih.nd,?_,fun a ha b hb e => ?_⟩
   ·rw [ih.beh j hj]; exact List.nodup_range.filter _
   ·subst e
    have h1:=((hmk a).1 hb).2.1
    rw [ih.fr a] at h1
    simp [ha] at h1
  ·rcases List.mem_append.1 hi with hi | hi
   ·obtain ⟨h1,h2,h3,h4⟩:=ih.now i hi
    exact ⟨h1,h2,hmono _ h3,h4⟩
   ·obtain ⟨h1,h2,h3⟩:=(hmk i).1 hi
    rw [ih.fr i] at h2
    rw [h3,Int.toNat_natCast]
    exact ⟨h1,(Bool.or_eq_false_iff.1 h2).1,hmono _ a1,hdj⟩
  ·by_cases hbj:b ∈ (q.at j).beh
   ·exact .inl (List.mem_append_right _ hbj)
   ·rw [hfr'] at h1
    have h1:(q.at b).fr = true:=by simpa [hbj] using h1
    rcases ih.cl b h1 h2 with hb | hb
    ·rcases List.mem_append.1 hb with hb | hb
     ·exact .inl (List.mem_append_left _ hb)
     ·simp at hb
      subst hb
      refine .inr fun i hi hib => ?_
      cases hfi:(q.at i).fr with
      | true => exact hmono i hfi
      | false =>
       rw [hfr']
       have:i ∈ (q.at b).beh:=(hmk i).2 ⟨hi,hfi,hib⟩
       simp [this]
    ·exact .inr fun i hi hib => hmono i (hb i hi hib)
  ·rw [hat]
   by_cases hbj:b = j
   ·subst hbj
    rw [if_pos rfl]
    refine Eq.symm (List.filter_eq_nil_iff.2 fun i hi => ?_)
    have hi:=List.mem_range.1 hi
    show ¬ (!((fire q b).at i).fr && _) = true
    rw [hfr']
    by_cases hib:(m.at i).bh = (b:Int)
    ·cases hfi:(q.at i).fr with
     | true => simp
     | false =>
      have:i ∈ (q.at b).beh:=(hmk i).2 ⟨hi,hfi,hib⟩
      simp [this]
    ·simp [hib]
   ·rw [if_neg hbj,ih.beh b hb]
    refine kids_congr fun i hi hib => ?_
    rw [hfr']
    have:i ∉ (q.at j).beh:=fun hm => by
     have:=((hmk i).1 hm).2.2
     rw [hib] at this
     exact hbj (by omega)
    simp [this]

theorem sortN_eq {l:List Nat} {n:Nat} {P:Nat -> Bool} (hnd:l.Nodup) (h:∀ i,i ∈ l ↔ i < n /\ P i = true):sortN l = (List.range n).filter P:=by
 refine List.Perm.eq_of_pairwise (le:=fun a b => a <= b) (fun a b _ _ h1 h2 => Nat.le_antisymm h1 h2) ?_ ?_ ?_
 ·have:=List.pairwise_mergeSort (le:=fun a b:Nat => decide (a <= b)) (fun a b c h1 h2 => by simp at *; omega) (fun a b => by simp; omega) l
  exact this.imp fun h => by simpa using h
 ·exact (List.pairwise_lt_range.filter _).imp fun h => Nat.le_of_lt h
 ·refine (List.mergeSort_perm l _).trans ((List.perm_ext_iff_of_nodup hnd (List.nodup_range.filter _)).2 fun i => ?_)
  rw [h i,List.mem_filter,List.mem_range]

theorem pushAll_eq (l:List Nat):∀ p:PM,pushAll p l = { p with turn:=p.turn ++ l.filter fun i => !(p.at i).q.isEmpty }:=by
 induction l with
 | nil => intro p; simp [pushAll]
 | cons i l ih =>
  intro p
  show pushAll (push87 p i) l = _
  rw [ih]
  have hat:∀ k,(push87 p i).at k = p.at k:=PM.at_I (push87_I p i)
  unfold push87 at *
  by_cases h:(p.at i).q.length = 0
  ·rw [if_pos h]
   have:(p.at i).q.isEmpty = true:=by rw [List.isEmpty_iff]; exact List.length_eq_zero_iff.1 h
   simp [List.filter_cons,this]
  ·rw [if_neg h]
   have:(p.at i).q.isEmpty = false:=by
    cases hq:(p.at i).q with
    | nil => rw [hq] at h; exact absurd rfl h
    | cons a b => rfl
   simp [List.filter_cons,this]
   exact List.filter_congr fun k _ => by
    show (!((p.at k).q.isEmpty)) = _
    rfl

theorem freed_fresh {p p':PM} {m:RM} {k:Nat} (h:Abs0 p m) (hok:p.Ok) (hr:m.Ranked) (hk:k < m.I.length)
  (hcl:∀ i,i < m.I.length -> (m.at i).fr = false -> (m.at i).bh ≠ (k:Int) -> ¬ ((m.at (m.at i).bh.toNat).fr = true /\ (m.at (m.at i).bh.toNat).dead = true)) (hf:Freed p k p'):Abs0 p' m.fresh /\ p'.gone = p.gone /\ p'.count = p.count:=by
 obtain ⟨q,now,hreach,rfl⟩:=hf
 have J:=reach_J h hok hr hk hcl hreach
 have hrec:∀ i,i < m.I.length -> (q.at i).fr = ((m.at i).fr || ((q.at (m.at i).bh.toNat).fr && (m.at (m.at i).bh.toNat).dead)):=by
  intro i hi
  cases hfi:(m.at i).fr with
  | true => rw [J.fr,hfi]; rfl
  | false =>
   rw [Bool.false_or]
   by_cases hin:i ∈ now
   ·obtain ⟨_,_,h3,h4⟩:=J.now i hin
    rw [h3,h4,J.fr i]
    simp [hin]
   ·have:(q.at i).fr = false:=by rw [J.fr i,hfi]; simp [hin]
    rw [this]
    cases hb:((q.at (m.at i).bh.toNat).fr && (m.at (m.at i).bh.toNat).dead) with
    | false => rfl
    | true =>
     rw [Bool.and_eq_true] at hb
     have hb0:=(hr i hi hfi).1
     rcases J.cl _ hb.1 hb.2 with h1 | h1
     ·cases h1
     ·have h9:=h1 i hi (by omega)
      rw [this] at h9
      cases h9
 obtain ⟨f,h1,h2,h3,h4,h5,h6⟩:=fresh_spec hr
 have hfu:=fresh_unique hr hrec h1
 have hat:∀ i,m.fresh.at i = { m.at i with fr:=(q.at i).fr }:=fun i => by
  by_cases hi:i < m.I.length
  ·rw [h3 i hi,hfu i hi]
  ·rw [at_ge (by omega),at_ge (by omega)]
   have:(q.at i) = PI.no:=by unfold PM.at; rw [List.getD,List.getElem?_eq_none (by rw [J.len]; omega)]; rfl
   rw [this]
   show RI.no = _
   rfl
 have hsort:sortN now = (List.range m.I.length).filter fun i => !(m.at i).fr && (q.at i).fr:=sortN_eq J.nd fun i => by
  constructor
  ·intro hi
   obtain ⟨a1,a2,_⟩:=J.now i hi
   exact ⟨a1,by rw [J.fr i,a2]; simp [hi]⟩
  ·rintro ⟨a1,a2⟩
   rw [J.fr i] at a2
   cases hfi:(m.at i).fr with
   | true => rw [hfi] at a2; simp at a2
   | false => rw [hfi] at a2; simpa using a2
 rw [pushAll_eq]
 refine ⟨⟨J.len.trans h2.symm,fun i => by rw [hat]; exact J.op i,fun i => by rw [hat]; rfl,fun i => by rw [hat]; exact J.qs i,fun b hb => ?_,?_,?_,?_⟩,J.rest.2.2.2.1,J.rest.2.2.2.2⟩
 ·rw [h2] at hb
  show (q.at b).beh = _
  rw [J.beh b hb]
  unfold kids
  rw [h2]
  refine List.filter_congr fun i hi => ?_
  show (!(q.at i).fr && decide ((m.at i).bh = (b:Int))) = (!(m.fresh.at i).fr && decide ((m.fresh.at i).bh = (b:Int)))
  rw [hat]
 ·show q.turn ++ _ = m.fresh.turn
  rw [h4,J.rest.1,h.turn,hsort,List.filter_filter]
  congr 1
  refine List.filter_congr fun i hi => ?_
  have hi:=List.mem_range.1 hi
  rw [J.qs i,hfu i hi]
  cases (m.at i).fr <;> cases f i <;> cases (m.at i).q.isEmpty <;> rfl
 ·rw [h5,<-h.work]; exact J.rest.2.1
 ·rw [h6,<-h.came]; exact J.rest.2.2.1
end Go.V
/- What a merger does, in plain terms; what stays true of it. -/
namespace Go.V

def RM.setI (m:RM) (k:Nat) (x:RI):RM:={ m with I:=m.I.set k x }
theorem RM.set_at {m:RM} {I:List RI} {k j:Nat} {x:RI} (hI:m.I = I.set k x) (hk:k < I.length):m.at j = if j = k then x else I.getD j RI.no:=by
 unfold RM.at
 rw [hI,getD_set]
 by_cases h:k = j
 ·subst h; simp [hk]
 ·rw [if_neg (fun e => h e.1),if_neg fun e => h e.symm]

def RM.put1 (m:RM) (k:Nat) (t:T):RM :=
 ⟨m.I.set k { m.at k with q:=(m.at k).q ++ [t] },if (m.at k).fr && (m.at k).q.isEmpty then m.turn ++ [k] else m.turn,m.work + 1,m.puts + 1⟩
def RM.put (m:RM) (i:Int) (t:T):RM × Int:=match m.opened i with
 | none => (m,90)
 | some k => if chkT t ≠ 0 then (m,3) else if 20000 <= m.puts then (m,91) else (m.put1 k t,0)
def RM.shut (m:RM) (k:Nat):RM:=⟨m.I.set k { m.at k with op:=false },m.turn,m.work + 1,m.puts⟩
def RM.close (m:RM) (i:Int):RM × Int:=match m.opened i with
 | none => (m,90)
 | some k => ((m.shut k).fresh,0)
def RM.split1 (m:RM) (k n:Nat):RM:=⟨m.I ++ List.replicate n ⟨[],true,false,(k:Int)⟩,m.turn,m.work + n,m.puts⟩
def RM.split (m:RM) (i n:Int):RM × List Nat × Int:=match m.opened i with
 | none => (m,[],90)
 | some k => if n < 0 \/ 64 < n then (m,[],1) else if 4096 < (m.I.length:Int) + n then (m,[],2) else (((m.shut k).split1 k n.toNat).fresh,List.range' m.I.length n.toNat,0)
def RM.take1 (m:RM) (k:Nat) (r:List Nat) (q:List T):RM:=⟨m.I.set k { m.at k with q:=q },r,m.work + 1,m.puts⟩
def RM.back (m:RM) (k:Nat) (q:List T):RM:={ m with turn:=if q.isEmpty then m.turn else m.turn ++ [k] }
def RM.next (m:RM):RM × Option (Nat × T):=match m.turn with
 | [] => (m,none)
 | k :: r => match (m.at k).q with
  | [] => (m,none)
  | t :: q => ((m.take1 k r q).fresh.back k q,some (k,t))
def RM.sumI (m:RM) (g:RI -> Nat):Nat:=(m.I.map g).sum
def RM.qsum (m:RM):Nat:=m.sumI fun x => x.q.length
def RM.opens (m:RM):Nat:=m.sumI fun x => if x.op then 1 else 0
def RM.done (m:RM):Bool:=m.I.all RI.dead
def RM.inputs (m:RM):List Nat:=(List.range m.I.length).filter fun i => (m.at i).op

theorem sum_setR {g:RI -> Nat}:∀ {l:List RI} {k:Nat} {x:RI} (hk:k < l.length),((l.set k x).map g).sum + g (l.getD k RI.no) = (l.map g).sum + g x
 | [],k,x,hk => by simp at hk
 | y :: l,0,x,hk => by simp [List.getD]; omega
 | y :: l,k + 1,x,hk => by
  have:=sum_setR (g:=g) (l:=l) (k:=k) (x:=x) (by simpa using hk)
  simp [List.getD] at this ⊢
  omega
theorem sum_le {g:RI -> Nat} {b:Nat}:∀ (l:List RI),(∀ x ∈ l,g x <= b) -> (l.map g).sum <= b * l.length
 | [],_ => by simp
 | y :: l,h => by
  have h1:=sum_le l fun x hx => h x (List.mem_cons_of_mem _ hx)
  have h2:=h y (List.mem_cons_self ..)
  simp [Nat.mul_succ]; omega
theorem le_sum {g:RI -> Nat}:∀ (l:List RI) (k:Nat),g RI.no = 0 -> g (l.getD k RI.no) <= (l.map g).sum
 | [],k,h => by simp [List.getD,h]
 | y :: l,0,h => by simp [List.getD]
 | y :: l,k + 1,h => by
  have:=le_sum l k h
  simp [List.getD] at this ⊢
  omega
theorem map_at {m m':RM} {α:Type} {g:RI -> α} (hl:m'.I.length = m.I.length) (h:∀ i,i < m.I.length -> g (m'.at i) = g (m.at i)):m'.I.map g = m.I.map g:=by
 refine List.ext_getElem (by simp [hl]) fun i h1 h2 => ?_
 simp at h1 h2
 have:=h i h2
 unfold RM.at at this
 simp only [List.getD,List.getElem?_eq_getElem h1,List.getElem?_eq_getElem h2,Option.getD_some] at this
 simpa using this
theorem opens_le (m:RM):m.opens <= m.I.length:=by
 have:=sum_le (g:=fun x:RI => if x.op then 1 else 0) (b:=1) m.I fun x _ => by split <;> omega
 unfold RM.opens RM.sumI; omega
theorem q_le (m:RM) (k:Nat):(m.at k).q.length <= m.qsum:=le_sum (g:=fun x:RI => x.q.length) m.I k rfl
theorem op_le {m:RM} {k:Nat} (h:(m.at k).op = true):1 <= m.opens:=by
 have:=le_sum (g:=fun x:RI => if x.op then 1 else 0) m.I k (by simp [RI.no])
 have h2:(m.I.getD k RI.no).op = true:=h
 rw [h2] at this
 exact this

structure RM.Wf0 (m:RM) (x:Nat -> Prop):Prop where
 len:m.I.length <= 4096
 puts:m.puts <= 20000
 rk:∀ i,i < m.I.length -> -1 <= (m.at i).bh /\ (m.at i).bh < i
 rt:∀ i,i < m.I.length -> (m.at i).bh = -1 -> (m.at i).fr = true
 an:∀ i,i < m.I.length -> (m.at i).fr = true -> (m.at i).bh = -1 \/ ((m.at (m.at i).bh.toNat).fr = true /\ (m.at (m.at i).bh.toNat).dead = true)
 bo:∀ i,i < m.I.length -> (m.at i).bh ≠ -1 -> (m.at (m.at i).bh.toNat).op = false
 tn:m.turn.Nodup
 tm:∀ j,j ∈ m.turn ↔ j < m.I.length /\ (m.at j).fr = true /\ (m.at j).q ≠ [] /\ ¬ x j
 chk:∀ k,∀ t ∈ (m.at k).q,chkT t = 0
 qp:m.qsum <= m.puts
 wk:m.work + m.qsum + m.opens = 2 * m.I.length + 2 * m.puts
structure RM.Wf (m:RM):Prop where
 w:m.Wf0 fun _ => False
 cl:∀ i,i < m.I.length -> (m.at i).fr = false -> ¬ ((m.at (m.at i).bh.toNat).fr = true /\ (m.at (m.at i).bh.toNat).dead = true)
theorem RM.Wf0.ranked {m:RM} {x:Nat -> Prop} (h:m.Wf0 x):m.Ranked:=fun i hi hf => by
 have h1:=h.rk i hi
 have h2:(m.at i).bh ≠ -1:=fun e => by rw [h.rt i hi e] at hf; cases hf
 omega
theorem RM.Wf0.work {m:RM} {x:Nat -> Prop} (h:m.Wf0 x):m.work <= 50000:=by
 have:=h.wk; have:=h.len; have:=h.puts; omega

theorem opened_some {m:RM} {i:Int} {k:Nat} (h:m.opened i = some k):i = (k:Int) /\ k < m.I.length /\ (m.at k).op = true:=by
 unfold RM.opened at h
 split at h
 ·rename_i h1
  obtain ⟨a,b,c⟩:=h1
  cases h
  exact ⟨by omega,by omega,c⟩
 ·cases h

theorem fresh_wf {m:RM} {x:Nat -> Prop} (h:m.Wf0 x) (hx:∀ j,x j -> (m.at j).fr = true):m.fresh.Wf0 x /\ (∀ i,i < m.fresh.I.length -> (m.fresh.at i).fr = false -> ¬ ((m.fresh.at (m.fresh.at i).bh.toNat).fr = true /\ (m.fresh.at (m.fresh.at i).bh.toNat).dead = true)) /\
  m.fresh.I.length = m.I.length /\ (∀ i,(m.fresh.at i).q = (m.at i).q /\ (m.fresh.at i).op = (m.at i).op /\ (m.fresh.at i).bh = (m.at i).bh /\ ((m.at i).fr = true -> (m.fresh.at i).fr = true)) /\ m.fresh.work = m.work /\ m.fresh.puts = m.puts /\ m.fresh.qsum = m.qsum /\ m.fresh.opens = m.opens /\ ∃ l,m.fresh.turn = m.turn ++ l:=by
 obtain ⟨f,h1,h2,h3,h4,h5,h6⟩:=fresh_spec h.ranked
 have hge:∀ i,m.I.length <= i -> m.fresh.at i = RI.no /\ m.at i = RI.no:=fun i hi => ⟨at_ge (by omega),at_ge hi⟩
 have hq:∀ i,(m.fresh.at i).q = (m.at i).q:=fun i => by
  by_cases hi:i < m.I.length
  ·rw [h3 i hi]
  ·rw [(hge i (by omega)).1,(hge i (by omega)).2]
 have hop:∀ i,(m.fresh.at i).op = (m.at i).op:=fun i => by
  by_cases hi:i < m.I.length
  ·rw [h3 i hi]
  ·rw [(hge i (by omega)).1,(hge i (by omega)).2]
 have hbh:∀ i,(m.fresh.at i).bh = (m.at i).bh:=fun i => by
  by_cases hi:i < m.I.length
  ·rw [h3 i hi]
  ·rw [(hge i (by omega)).1,(hge i (by omega)).2]
 have hfr:∀ i,i < m.I.length -> (m.fresh.at i).fr = f i:=fun i hi => by rw [h3 i hi]
 have hdead:∀ i,(m.fresh.at i).dead = (m.at i).dead:=fun i => by unfold RI.dead; rw [hq,hop]
 have hup:∀ i,(m.at i).fr = true -> (m.fresh.at i).fr = true:=fun i hi => by
  by_cases hl:i < m.I.length
  ·rw [hfr i hl,h1 i hl,hi]; rfl
  ·rw [(hge i (by omega)).2] at hi; cases hi
 have hqs:m.fresh.qsum = m.qsum:=congrArg List.sum (map_at h2 fun i hi => by rw [hq])
 have hops:m.fresh.opens = m.opens:=congrArg List.sum (map_at h2 fun i hi => by rw [hop])
 have hbl:∀ i,i < m.I.length -> (m.at i).bh ≠ -1 -> (m.at i).bh.toNat < m.I.length:=fun i hi hb => by
  have:=h.rk i hi; omega
 refine ⟨⟨by rw [h2]; exact h.len,by rw [h6]; exact h.puts,fun i hi => by rw [hbh]; exact h.rk i (by omega),fun i hi hb => ?_,fun i hi hf => ?_,fun i hi hb => by rw [hbh] at hb; rw [hbh,hop]; exact h.bo i (by omega) hb,?_,fun j => ?_,fun k t ht => h.chk k t (by rw [<-hq]; exact ht),by rw [hqs,h6]; exact h.qp,by rw [hqs,hops,h2,h5,h6]; exact h.wk⟩,fun i hi hf => ?_,h2,fun i => ⟨hq i,hop i,hbh i,hup i⟩,h5,h6,hqs,hops,_,h4⟩
 ·rw [hbh] at hb
  exact hup i (h.rt i (by omega) hb)
 ·have hi:i < m.I.length:=by omega
  rw [hfr i hi,h1 i hi] at hf
  rw [hbh,hdead]
  by_cases hb:(m.at i).bh = -1
  ·exact .inl hb
  refine .inr ?_
  have hbl:=hbl i hi hb
  cases hfi:(m.at i).fr with
  | true =>
   rcases h.an i hi hfi with h7 | ⟨h7,h8⟩
   ·exact absurd h7 hb
   ·exact ⟨hup _ h7,h8⟩
  | false =>
   rw [hfi,Bool.false_or,Bool.and_eq_true] at hf
   exact ⟨by rw [hfr _ hbl]; exact hf.1,hf.2⟩
 ·rw [h4]
  refine List.nodup_append.2 ⟨h.tn,List.nodup_range.filter _,fun a ha b hb e => ?_⟩
  subst e
  have h7:=((h.tm a).1 ha).2.1
  have h8:=(List.mem_filter.1 hb).2
  rw [h7] at h8
  simp at h8
 ·rw [h4,List.mem_append,h.tm j,List.mem_filter,List.mem_range,hq,h2]
  constructor
  ·rintro (⟨a1,a2,a3,a4⟩ | ⟨a1,a2⟩)
   ·exact ⟨a1,hup j a2,a3,a4⟩
   ·cases hfj:(m.at j).fr with
    | true => rw [hfj] at a2; simp at a2
    | false =>
     rw [hfj] at a2
     simp at a2
     exact ⟨a1,by rw [hfr j a1]; exact a2.1,a2.2,fun e => by rw [hx j e] at hfj; cases hfj⟩
  ·rintro ⟨a1,a2,a3,a4⟩
   cases hfj:(m.at j).fr with
   | true => exact .inl ⟨a1,rfl,a3,a4⟩
   | false =>
    rw [hfr j a1] at a2
    exact .inr ⟨a1,by simp [a2,a3]⟩
 ·have hi:i < m.I.length:=by omega
  rw [hfr i hi] at hf
  rw [hbh,hdead]
  rintro ⟨a1,a2⟩
  have hfi:(m.at i).fr = false:=by
   cases hfi:(m.at i).fr with
   | true => rw [h1 i hi,hfi] at hf; simp at hf
   | false => rfl
  have hb:(m.at i).bh ≠ -1:=fun e => by rw [h.rt i hi e] at hfi; cases hfi
  rw [hfr _ (hbl i hi hb)] at a1
  rw [h1 i hi,a1,a2] at hf
  simp at hf
end Go.V
/- What stays true of a merger: each step. -/
namespace Go.V

theorem nd_len {m:RM} {x:Nat -> Prop} (h:m.Wf0 x):m.turn.length <= m.I.length:=by
 have hs:∀ (n:Nat) (l:List Nat),l.Nodup -> (∀ i ∈ l,i < n) -> l.length <= n:=by
  intro n
  induction n with
  | zero => intro l _ hl; cases l with
   | nil => simp
   | cons a l => exact absurd (hl a (List.mem_cons_self ..)) (by omega)
  | succ n ih =>
   intro l hn hl
   have h1:=ih (l.erase n) (hn.erase n) fun i hi => by
    have:=hl i (List.mem_of_mem_erase hi)
    have h2:i ≠ n:=fun e => by subst e; exact absurd hi (by rw [hn.mem_erase_iff]; simp)
    omega
   have:=List.length_erase (a:=n) (l:=l)
   split at this <;> omega
 exact hs _ _ h.tn fun i hi => ((h.tm i).1 hi).1

theorem qsum_set {m m':RM} {k n:Nat} {x:RI} (hk:k < m.I.length) (hI:m'.I = m.I.set k x) (hn:x.q.length = n):m'.qsum + (m.at k).q.length = m.qsum + n:=by
 subst hn
 unfold RM.qsum RM.sumI
 rw [hI]
 exact sum_setR (g:=fun x:RI => x.q.length) hk
theorem opens_set {m m':RM} {k:Nat} {x:RI} {a b:Nat} (hk:k < m.I.length) (hI:m'.I = m.I.set k x) (ha:(if (m.at k).op then 1 else 0) = a) (hb:(if x.op then 1 else 0) = b):m'.opens + a = m.opens + b:=by
 subst ha; subst hb
 unfold RM.opens RM.sumI
 rw [hI]
 exact sum_setR (g:=fun x:RI => if x.op then 1 else 0) hk

theorem put1_wf {m:RM} {k:Nat} {t:T} (h:m.Wf) (hk:k < m.I.length) (hop:(m.at k).op = true) (ht:chkT t = 0) (hp:m.puts < 20000):(m.put1 k t).Wf:=by
 have hw:=h.w
 have hat:∀ j,(m.put1 k t).at j = if j = k then { m.at k with q:=(m.at k).q ++ [t] } else m.at j:=fun j => RM.set_at (I:=m.I) rfl hk
 have hl:(m.put1 k t).I.length = m.I.length:=List.length_set
 have hfr:∀ j,((m.put1 k t).at j).fr = (m.at j).fr:=fun j => by rw [hat]; split <;> simp [*]
 have hbh:∀ j,((m.put1 k t).at j).bh = (m.at j).bh:=fun j => by rw [hat]; split <;> simp [*]
 have hopq:∀ j,((m.put1 k t).at j).op = (m.at j).op:=fun j => by rw [hat]; split <;> simp [*]
 have hdead:∀ j,((m.put1 k t).at j).dead = (m.at j).dead:=fun j => by
  rw [hat]
  split
  ·subst j; unfold RI.dead; simp [hop]
  ·rfl
 have hqs:(m.put1 k t).qsum = m.qsum + 1:=by
  have:=qsum_set (m':=m.put1 k t) hk rfl (List.length_append)
  simp at this; omega
 have hops:(m.put1 k t).opens = m.opens:=by
  have:=opens_set (m':=m.put1 k t) hk rfl rfl rfl
  simp only [hop,if_true] at this; omega
 refine ⟨⟨by rw [hl]; exact hw.len,by show m.puts + 1 <= _; omega,fun i hi => by rw [hbh]; exact hw.rk i (by omega),fun i hi hb => by rw [hfr]; rw [hbh] at hb; exact hw.rt i (by omega) hb,fun i hi hf => by rw [hbh,hfr,hdead]; rw [hfr] at hf; exact hw.an i (by omega) hf,fun i hi hb => by rw [hbh] at hb; rw [hbh,hopq]; exact hw.bo i (by omega) hb,?_,fun j => ?_,fun j x hx => ?_,by rw [hqs]; show _ <= m.puts + 1; have:=hw.qp; omega,?_⟩,fun i hi hf => ?_⟩
 ·show (if _ then _ else _:List Nat).Nodup
  split
  ·rename_i hc
   rw [Bool.and_eq_true] at hc
   refine List.nodup_append.2 ⟨hw.tn,by simp,fun a ha b hb e => ?_⟩
   simp at hb
   subst hb; subst e
   have:=((hw.tm a).1 ha).2.2.1
   rw [List.isEmpty_iff] at hc
   exact this hc.2
  ·exact hw.tn
 ·rw [hl,hfr,hat]
  show j ∈ (if _ then _ else _:List Nat) ↔ _
  have h1:=hw.tm j
  by_cases hj:j = k
  ·subst hj
   simp only [if_true]
   cases hf:(m.at j).fr with
   | false => rw [hf] at h1; simp at h1; simp [h1]
   | true =>
    cases hq:(m.at j).q with
    | nil => simp [hk]
    | cons a q => rw [hf,hq] at h1; simp at h1; simp [h1,hk]
  ·rw [if_neg hj]
   split
   ·simp [hj,h1]
   ·exact h1
 ·rw [hat] at hx
  split at hx
  ·rcases List.mem_append.1 hx with hx | hx
   ·exact hw.chk k x hx
   ·simp at hx; subst hx; exact ht
  ·exact hw.chk j x hx
 ·rw [hqs,hops,hl]
  have:=hw.wk
  show m.work + 1 + _ + _ = 2 * _ + 2 * (m.puts + 1)
  omega
 ·rw [hbh,hfr,hdead]
  rw [hfr] at hf
  exact h.cl i (by omega) hf

theorem shut_wf {m:RM} {k:Nat} (h:m.Wf) (hk:k < m.I.length) (hop:(m.at k).op = true):(m.shut k).Wf0 (fun _ => False) /\ (∀ i,i < (m.shut k).I.length -> ((m.shut k).at i).fr = false -> ((m.shut k).at i).bh ≠ (k:Int) -> ¬ (((m.shut k).at ((m.shut k).at i).bh.toNat).fr = true /\ ((m.shut k).at ((m.shut k).at i).bh.toNat).dead = true)) /\ (m.shut k).opens + 1 = m.opens /\ (m.shut k).qsum = m.qsum:=by
 have hw:=h.w
 have hat:∀ j,(m.shut k).at j = if j = k then { m.at k with op:=false } else m.at j:=fun j => RM.set_at (I:=m.I) rfl hk
 have hl:(m.shut k).I.length = m.I.length:=List.length_set
 have hfr:∀ j,((m.shut k).at j).fr = (m.at j).fr:=fun j => by rw [hat]; split <;> simp [*]
 have hbh:∀ j,((m.shut k).at j).bh = (m.at j).bh:=fun j => by rw [hat]; split <;> simp [*]
 have hq:∀ j,((m.shut k).at j).q = (m.at j).q:=fun j => by rw [hat]; split <;> simp [*]
 have hopf:∀ j,(m.at j).op = false -> ((m.shut k).at j).op = false:=fun j hj => by rw [hat]; split <;> simp [*]
 have hdead:∀ j,j ≠ k -> ((m.shut k).at j).dead = (m.at j).dead:=fun j hj => by rw [hat,if_neg hj]
 have hdead2:∀ j,(m.at j).dead = true -> ((m.shut k).at j).dead = true:=fun j hj => by
  by_cases e:j = k
  ·subst e; unfold RI.dead at hj; rw [hop] at hj; simp at hj
  ·rw [hdead j e]; exact hj
 have hqs:(m.shut k).qsum = m.qsum:=by
  have:=qsum_set (m':=m.shut k) (n:=(m.at k).q.length) hk rfl rfl
  omega
 have hops:(m.shut k).opens + 1 = m.opens:=by
  have:=opens_set (m':=m.shut k) hk rfl rfl rfl
  simpa [hop] using this
 refine ⟨⟨by rw [hl]; exact hw.len,hw.puts,fun i hi => by rw [hbh]; exact hw.rk i (by omega),fun i hi hb => by rw [hfr]; rw [hbh] at hb; exact hw.rt i (by omega) hb,fun i hi hf => ?_,fun i hi hb => by rw [hbh] at hb; rw [hbh]; exact hopf _ (hw.bo i (by omega) hb),hw.tn,fun j => by rw [hl,hfr,hq]; exact hw.tm j,fun j x hx => hw.chk j x (by rw [<-hq]; exact hx),by rw [hqs]; exact hw.qp,?_⟩,fun i hi hf hb => ?_,hops,hqs⟩
 ·rw [hbh,hfr]
  rw [hfr] at hf
  rcases hw.an i (by omega) hf with h1 | ⟨h1,h2⟩
  ·exact .inl h1
  ·exact .inr ⟨h1,hdead2 _ h2⟩
 ·rw [hqs,hl]
  have:=hw.wk
  show m.work + 1 + _ + _ = 2 * _ + 2 * m.puts
  omega
 ·rw [hbh] at hb
  rw [hfr] at hf
  rw [hbh,hfr]
  have hr:=hw.ranked i (by omega) hf
  rw [hdead _ (by omega)]
  exact h.cl i (by omega) hf

theorem take1_wf {m:RM} {k:Nat} {r:List Nat} {t:T} {q:List T} (h:m.Wf) (ht:m.turn = k :: r) (hq:(m.at k).q = t :: q):(m.take1 k r q).Wf0 (fun j => j = k) /\ (∀ i,i < (m.take1 k r q).I.length -> ((m.take1 k r q).at i).fr = false -> ((m.take1 k r q).at i).bh ≠ (k:Int) -> ¬ (((m.take1 k r q).at ((m.take1 k r q).at i).bh.toNat).fr = true /\ ((m.take1 k r q).at ((m.take1 k r q).at i).bh.toNat).dead = true)) /\ (m.take1 k r q).opens = m.opens /\ (m.take1 k r q).qsum + 1 = m.qsum /\ k < m.I.length /\ (m.at k).fr = true:=by
 have hw:=h.w
 obtain ⟨hk,hkf,_,_⟩:=(hw.tm k).1 (by rw [ht]; simp)
 have hat:∀ j,(m.take1 k r q).at j = if j = k then { m.at k with q:=q } else m.at j:=fun j => RM.set_at (I:=m.I) rfl hk
 have hl:(m.take1 k r q).I.length = m.I.length:=List.length_set
 have hfr:∀ j,((m.take1 k r q).at j).fr = (m.at j).fr:=fun j => by rw [hat]; split <;> simp [*]
 have hbh:∀ j,((m.take1 k r q).at j).bh = (m.at j).bh:=fun j => by rw [hat]; split <;> simp [*]
 have hopq:∀ j,((m.take1 k r q).at j).op = (m.at j).op:=fun j => by rw [hat]; split <;> simp [*]
 have hdead:∀ j,j ≠ k -> ((m.take1 k r q).at j).dead = (m.at j).dead:=fun j hj => by rw [hat,if_neg hj]
 have hdead2:∀ j,(m.at j).dead = true -> ((m.take1 k r q).at j).dead = true:=fun j hj => by
  by_cases e:j = k
  ·subst e; unfold RI.dead at hj; rw [hq] at hj; simp at hj
  ·rw [hdead j e]; exact hj
 have hqs:(m.take1 k r q).qsum + 1 = m.qsum:=by
  have:=qsum_set (m':=m.take1 k r q) (n:=q.length) hk rfl rfl
  rw [hq] at this; simp at this; omega
 have hops:(m.take1 k r q).opens = m.opens:=by
  have:=opens_set (m':=m.take1 k r q) (a:=if (m.at k).op then 1 else 0) hk rfl rfl rfl
  exact Nat.add_right_cancel this
 have hnd:=hw.tn
 rw [ht,List.nodup_cons] at hnd
 refine ⟨⟨by rw [hl]; exact hw.len,hw.puts,fun i hi => by rw [hbh]; exact hw.rk i (by omega),fun i hi hb => by rw [hfr]; rw [hbh] at hb; exact hw.rt i (by omega) hb,fun i hi hf => ?_,fun i hi hb => by rw [hbh] at hb; rw [hbh,hopq]; exact hw.bo i (by omega) hb,hnd.2,fun j => ?_,fun j x hx => ?_,by have:=hw.qp; show _ <= m.puts; omega,?_⟩,fun i hi hf hb => ?_,hops,hqs,hk,hkf⟩
 ·rw [hbh,hfr]
  rw [hfr] at hf
  rcases hw.an i (by omega) hf with h1 | ⟨h1,h2⟩
  ·exact .inl h1
  ·exact .inr ⟨h1,hdead2 _ h2⟩
 ·show j ∈ r ↔ _
  rw [hl,hfr]
  have h1:=hw.tm j
  rw [ht,List.mem_cons] at h1
  by_cases hj:j = k
  ·subst hj; simp [hnd.1]
  ·rw [hat,if_neg hj]
   simp [hj] at h1 ⊢
   exact h1
 ·rw [hat] at hx
  split at hx
  ·exact hw.chk k x (by rw [hq]; exact List.mem_cons_of_mem _ hx)
  ·exact hw.chk j x hx
 ·rw [hops,hl]
  have:=hw.wk
  show m.work + 1 + _ + _ = 2 * _ + 2 * m.puts
  omega
 ·rw [hbh] at hb
  rw [hfr] at hf
  rw [hbh,hfr]
  have hr:=hw.ranked i (by omega) hf
  rw [hdead _ (by omega)]
  exact h.cl i (by omega) hf

theorem split1_at {m:RM} {k n j:Nat} (hj:j < m.I.length):(m.split1 k n).at j = m.at j:=by
 unfold RM.at RM.split1
 simp only [List.getD]
 rw [List.getElem?_append_left hj]
theorem split1_new {m:RM} {k n j:Nat} (hj:m.I.length <= j) (hn:j < m.I.length + n):(m.split1 k n).at j = ⟨[],true,false,(k:Int)⟩:=by
 unfold RM.at RM.split1
 simp only [List.getD]
 rw [List.getElem?_append_right hj,List.getElem?_replicate,if_pos (by omega)]
 rfl
theorem split1_len {m:RM} {k n:Nat}:(m.split1 k n).I.length = m.I.length + n:=by
 show (m.I ++ List.replicate n _).length = _
 simp
theorem split1_wf {m:RM} {k n:Nat} (h:m.Wf0 fun _ => False) (hk:k < m.I.length) (hko:(m.at k).op = false) (hn:m.I.length + n <= 4096)
  (hcl:∀ i,i < m.I.length -> (m.at i).fr = false -> (m.at i).bh ≠ (k:Int) -> ¬ ((m.at (m.at i).bh.toNat).fr = true /\ (m.at (m.at i).bh.toNat).dead = true)) :
  (m.split1 k n).Wf0 (fun _ => False) /\ (∀ i,i < (m.split1 k n).I.length -> ((m.split1 k n).at i).fr = false -> ((m.split1 k n).at i).bh ≠ (k:Int) -> ¬ (((m.split1 k n).at ((m.split1 k n).at i).bh.toNat).fr = true /\ ((m.split1 k n).at ((m.split1 k n).at i).bh.toNat).dead = true)) /\ (m.split1 k n).opens = m.opens + n /\ (m.split1 k n).qsum = m.qsum:=by
 have hcase:∀ j,j < (m.split1 k n).I.length -> j < m.I.length \/ (m.I.length <= j /\ j < m.I.length + n):=fun j hj => by rw [split1_len] at hj; omega
 have hqs:(m.split1 k n).qsum = m.qsum:=by
  show ((m.I ++ List.replicate n (⟨[],true,false,(k:Int)⟩:RI)).map fun x:RI => x.q.length).sum = (m.I.map fun x:RI => x.q.length).sum
  rw [List.map_append,List.sum_append,List.map_replicate]
  simp
 have hops:(m.split1 k n).opens = m.opens + n:=by
  show ((m.I ++ List.replicate n (⟨[],true,false,(k:Int)⟩:RI)).map fun x:RI => if x.op then 1 else 0).sum = (m.I.map fun x:RI => if x.op then 1 else 0).sum + n
  rw [List.map_append,List.sum_append,List.map_replicate]
  simp
 refine ⟨⟨by rw [split1_len]; exact hn,h.puts,fun i hi => ?_,fun i hi hb => ?_,fun i hi hf => ?_,fun i hi hb => ?_,h.tn,fun j => ?_,fun j x hx => ?_,by rw [hqs]; exact h.qp,?_⟩,fun i hi hf hb => ?_,hops,hqs⟩
 ·rcases hcase i hi with h1 | ⟨h1,h2⟩
  ·rw [split1_at h1]; exact h.rk i h1
  ·rw [split1_new h1 h2]; dsimp only; omega
 ·rcases hcase i hi with h1 | ⟨h1,h2⟩
  ·rw [split1_at h1] at *; exact h.rt i h1 hb
  ·rw [split1_new h1 h2] at hb; dsimp only at hb; omega
 ·rcases hcase i hi with h1 | ⟨h1,h2⟩
  ·rw [split1_at h1] at *
   rcases h.an i h1 hf with h3 | ⟨h3,h4⟩
   ·exact .inl h3
   ·refine .inr ?_
    have hb:=h.rk i h1
    rw [split1_at (by omega)]
    exact ⟨h3,h4⟩
  ·rw [split1_new h1 h2] at hf; cases hf
 ·rcases hcase i hi with h1 | ⟨h1,h2⟩
  ·rw [split1_at h1] at *
   have:=h.rk i h1
   rw [split1_at (by omega)]
   exact h.bo i h1 hb
  ·rw [split1_new h1 h2]
   dsimp only
   rw [Int.toNat_natCast,split1_at hk]
   exact hko
 ·show j ∈ m.turn ↔ _
  rw [h.tm j,split1_len]
  constructor
  ·rintro ⟨a1,a2,a3,a4⟩
   rw [split1_at a1]
   exact ⟨by omega,a2,a3,a4⟩
  ·rintro ⟨a1,a2,a3,a4⟩
   rcases hcase j (by rw [split1_len]; exact a1) with h1 | ⟨h1,h2⟩
   ·rw [split1_at h1] at *
    exact ⟨h1,a2,a3,a4⟩
   ·rw [split1_new h1 h2] at a2; cases a2
 ·by_cases hj:j < (m.split1 k n).I.length
  ·rcases hcase j hj with h1 | ⟨h1,h2⟩
   ·rw [split1_at h1] at hx; exact h.chk j x hx
   ·rw [split1_new h1 h2] at hx; cases hx
  ·rw [at_ge (by omega)] at hx; cases hx
 ·rw [hqs,hops,split1_len]
  have:=h.wk
  show m.work + n + _ + _ = 2 * _ + 2 * m.puts
  omega
 ·rcases hcase i hi with h1 | ⟨h1,h2⟩
  ·rw [split1_at h1] at *
   have hr:=h.ranked i h1 hf
   rw [split1_at (by omega)]
   exact hcl i h1 hf hb
  ·rw [split1_new h1 h2] at hb; exact absurd rfl hb

theorem back_wf {m:RM} {k:Nat} {q:List T} (h:m.Wf0 fun j => j = k) (hk:k < m.I.length) (hf:(m.at k).fr = true) (hq:(m.at k).q = q)
  (hcl:∀ i,i < m.I.length -> (m.at i).fr = false -> ¬ ((m.at (m.at i).bh.toNat).fr = true /\ (m.at (m.at i).bh.toNat).dead = true)):(m.back k q).Wf:=by
 refine ⟨⟨h.len,h.puts,h.rk,h.rt,h.an,h.bo,?_,fun j => ?_,h.chk,h.qp,h.wk⟩,hcl⟩
 ·show (if _ then _ else _:List Nat).Nodup
  split
  ·exact h.tn
  ·refine List.nodup_append.2 ⟨h.tn,by simp,fun a ha b hb e => ?_⟩
   simp at hb
   subst hb; subst e
   exact ((h.tm a).1 ha).2.2.2 rfl
 ·show j ∈ (if _ then _ else _:List Nat) ↔ j < m.I.length /\ (m.at j).fr = true /\ (m.at j).q ≠ [] /\ ¬ False
  have h1:=h.tm j
  by_cases hj:j = k
  ·subst hj
   simp at h1
   cases q with
   | nil => simp [h1,hq]
   | cons a q => simp [hk,hf,hq]
  ·simp [hj] at h1
   split
   ·rw [h1]; simp
   ·simp [hj,h1]
end Go.V
/- What the program keeps of a merger: each step. -/
namespace Go.V

structure Abs (p:PM) (m:RM):Prop where
 a:Abs0 p m
 gone:p.gone + m.qsum = m.puts
 count:p.count = m.opens

theorem count_le {l:List Nat} {P:Nat -> Bool} {b:Nat -> Int}:∀ n:Nat,((List.range n).map fun (k:Nat) => (l.filter fun i => P i && decide (b i = (k:Int))).length).sum <= (l.filter fun i => decide (b i < (n:Int))).length:=by
 intro n
 induction n with
 | zero => simp
 | succ n ih =>
  rw [List.range_succ,List.map_append,List.sum_append]
  simp only [List.map_cons,List.map_nil,List.sum_cons,List.sum_nil,Nat.add_zero]
  refine Nat.le_trans (Nat.add_le_add_right ih _) ?_
  clear ih
  show _ <= (l.filter fun i => decide (b i < (n:Int) + 1)).length
  induction l with
  | nil => simp
  | cons i l ih =>
   simp only [List.filter_cons]
   by_cases h1:b i < (n:Int)
   ·rw [decide_eq_true h1,decide_eq_false (show ¬ b i = (n:Int) by omega),decide_eq_true (show b i < (n:Int) + 1 by omega)]
    simp; omega
   ·by_cases h2:b i = (n:Int)
    ·rw [decide_eq_false h1,decide_eq_true h2,decide_eq_true (show b i < (n:Int) + 1 by omega)]
     cases P i <;> simp <;> omega
    ·rw [decide_eq_false h1,decide_eq_false h2,decide_eq_false (show ¬ b i < (n:Int) + 1 by omega)]
     simp; omega

theorem PM.mapI {α:Type} (p:PM) (g:PI -> α):p.I.map g = (List.range p.I.length).map fun k => g (p.at k):=by
 refine List.ext_getElem (by simp) fun i h1 h2 => ?_
 simp at h1
 simp [PM.at,List.getD,List.getElem?_eq_getElem h1]
theorem Abs0.T {p:PM} {m:RM} (h:Abs0 p m):p.T <= m.I.length:=by
 unfold PM.T
 rw [PM.mapI,h.len]
 have e:((List.range m.I.length).map fun k => (p.at k).beh.length) = (List.range m.I.length).map fun (k:Nat) => ((List.range m.I.length).filter fun i => !(m.at i).fr && decide ((m.at i).bh = (k:Int))).length :=
  List.map_congr_left fun k hk => by rw [h.beh k (List.mem_range.1 hk)]; rfl
 rw [e]
 refine Nat.le_trans (count_le (P:=fun i => !(m.at i).fr) (b:=fun i => (m.at i).bh) _) (Nat.le_trans (List.length_filter_le _ _) (by simp))
theorem Abs0.ok {p:PM} {m:RM} {x:Nat -> Prop} (h:Abs0 p m) (hw:m.Wf0 x):p.Ok where
 beh k i hi:=by
  by_cases hk:k < m.I.length
  ·rw [h.beh k hk,mem_kids] at hi
   rw [h.len]; exact hi.1
  ·rw [at_beh_nil (by rw [h.len]; omega)] at hi; cases hi
 q k:=by
  rw [h.q]
  have:=q_le m k
  have:=hw.qp
  have:=hw.puts
  omega
theorem Abs0.opened {p:PM} {m:RM} (h:Abs0 p m) (i:Int):p.opened i = m.opened i:=by
 unfold PM.opened RM.opened
 rw [h.len,h.op]

theorem PM.set_at {p:PM} {I:List PI} {k j:Nat} {x:PI} (hI:p.I = I.set k x) (hk:k < I.length):p.at j = if j = k then x else I.getD j PI.no:=by
 unfold PM.at
 rw [hI]
 simp only [List.getD,List.getElem?_set]
 by_cases h:k = j
 ·subst h; simp [hk]
 ·rw [if_neg h,if_neg fun e => h e.symm]

theorem abs_set {p p':PM} {m m':RM} {k:Nat} {x:PI} {y:RI} (h:Abs0 p m) (hk:k < m.I.length) (hp:p'.I = p.I.set k x) (hm:m'.I = m.I.set k y) (h1:x.op = y.op) (h2:x.fr = y.fr) (h3:x.q = y.q) (h4:x.beh = (p.at k).beh) (h5:y.bh = (m.at k).bh) (h6:y.fr = (m.at k).fr)
  (ht:p'.turn = m'.turn) (hw:p'.work = m'.work) (hc:p'.came = m'.puts):Abs0 p' m':=by
 have hpa:∀ j,p'.at j = if j = k then x else p.at j:=fun j => PM.set_at hp (by rw [h.len]; exact hk)
 have hma:∀ j,m'.at j = if j = k then y else m.at j:=fun j => RM.set_at hm hk
 have hl:m'.I.length = m.I.length:=by rw [hm]; exact List.length_set
 have hbh:∀ j,(m'.at j).bh = (m.at j).bh:=fun j => by rw [hma]; split <;> simp [*]
 have hfr:∀ j,(m'.at j).fr = (m.at j).fr:=fun j => by rw [hma]; split <;> simp [*]
 refine ⟨by rw [hp,hl,List.length_set]; exact h.len,fun j => ?_,fun j => ?_,fun j => ?_,fun j hj => ?_,ht,hw,hc⟩
 ·rw [hpa,hma]; split
  ·exact h1
  ·exact h.op j
 ·rw [hpa,hma]; split
  ·exact h2
  ·exact h.fr j
 ·rw [hpa,hma]; split
  ·exact h3
  ·exact h.q j
 ·have e:kids m' (fun i => (m'.at i).fr) j = kids m (fun i => (m.at i).fr) j:=by
   unfold kids
   rw [hl]
   refine List.filter_congr fun i _ => ?_
   show (!(m'.at i).fr && _) = (!(m.at i).fr && _)
   rw [hbh,hfr]
  rw [e,hpa]
  split
  ·rename_i e; subst e; rw [h4]; exact h.beh _ hk
  ·exact h.beh j (by omega)

theorem close_abs {p p':PM} {m:RM} {k:Nat} (h:Abs p m) (hw:m.Wf) (hk:k < m.I.length) (hop:(m.at k).op = true)
  (hf:Freed { p.setI k { p.at k with op:=false } with count:=p.count - 1,work:=p.work + 1 } k p'):Abs p' (m.shut k).fresh /\ (m.shut k).fresh.Wf:=by
 obtain ⟨w1,w2,w3,w4⟩:=shut_wf hw hk hop
 have hA:Abs0 { p.setI k { p.at k with op:=false } with count:=p.count - 1,work:=p.work + 1 } (m.shut k) :=
  abs_set h.a hk rfl rfl rfl (h.a.fr k) (h.a.q k) rfl rfl rfl h.a.turn (congrArg (· + 1) h.a.work) h.a.came
 have hkl:k < (m.shut k).I.length:=by show k < (m.I.set k _).length; rw [List.length_set]; exact hk
 obtain ⟨f1,f2,f3⟩:=freed_fresh hA (hA.ok w1) w1.ranked hkl w2 hf
 obtain ⟨g1,g2,g3,g4,g5,g6,g7,g8,_⟩:=fresh_wf w1 fun j hj => hj.elim
 refine ⟨⟨f1,?_,?_⟩,⟨g1,g2⟩⟩
 ·rw [f2,g7,w4,g6]; exact h.gone
 ·rw [f3,g8]
  have:=h.count
  show p.count - 1 = _
  omega

theorem put_abs {p p':PM} {m:RM} {k:Nat} {t:T} (h:Abs p m) (hk:k < m.I.length) (hop:(m.at k).op = true) (hI:p'.I = p.I.set k { p.at k with q:=(p.at k).q ++ [t] })
  (ht:p'.turn = if (p.at k).fr && (p.at k).q.isEmpty then p.turn ++ [k] else p.turn) (hw:p'.work = p.work + 1) (hc:p'.came = p.came + 1) (hg:p'.gone = p.gone) (hn:p'.count = p.count):Abs p' (m.put1 k t):=by
 refine ⟨abs_set h.a hk hI rfl (h.a.op k) (h.a.fr k) (by show (p.at k).q ++ [t] = _; rw [h.a.q]) rfl rfl rfl ?_ ?_ ?_,?_,?_⟩
 ·rw [ht,h.a.fr,h.a.q,h.a.turn]; rfl
 ·rw [hw,h.a.work]; rfl
 ·rw [hc,h.a.came]; rfl
 ·have:=qsum_set (m':=m.put1 k t) hk rfl (List.length_append)
  have:=h.gone
  simp at *
  rw [hg]
  show _ = m.puts + 1
  omega
 ·rw [hn,h.count]
  have:=opens_set (m':=m.put1 k t) hk rfl rfl rfl
  exact (Nat.add_right_cancel this).symm

theorem next_abs {p p1 p':PM} {m:RM} {k:Nat} {r:List Nat} {t:T} {q:List T} (h:Abs p m) (hw:m.Wf) (ht:m.turn = k :: r) (hq:(m.at k).q = t :: q)
  (hI:p1.I = p.I.set k { p.at k with q:=q }) (h1:p1.turn = r) (h2:p1.work = p.work + 1) (h3:p1.came = p.came) (h4:p1.gone = p.gone + 1) (h5:p1.count = p.count) (hf:Freed p1 k p') :
  Abs { p' with turn:=if q.isEmpty then p'.turn else p'.turn ++ [k] } (m.take1 k r q |>.fresh.back k q) /\ (m.take1 k r q |>.fresh.back k q).Wf /\ (p'.at k).q = q /\ p'.turn.length <= 4096 /\ k < p'.I.length:=by
 obtain ⟨w1,w2,w3,w4,hk,hkf⟩:=take1_wf hw ht hq
 have hA:Abs0 p1 (m.take1 k r q):=abs_set h.a hk hI rfl (h.a.op k) (h.a.fr k) rfl rfl rfl rfl h1 (by rw [h2,h.a.work]; rfl) (by rw [h3,h.a.came]; rfl)
 have hkl:k < (m.take1 k r q).I.length:=by show k < (m.I.set k _).length; rw [List.length_set]; exact hk
 have hat:(m.take1 k r q).at k = { m.at k with q:=q }:=by rw [RM.set_at (m:=m.take1 k r q) (I:=m.I) rfl hk,if_pos rfl]
 obtain ⟨f1,f2,f3⟩:=freed_fresh hA (hA.ok w1) w1.ranked hkl w2 hf
 obtain ⟨g1,g2,g3,g4,g5,g6,g7,g8,_⟩:=fresh_wf w1 fun j hj => by subst hj; rw [hat]; exact hkf
 have hqk:((m.take1 k r q).fresh.at k).q = q:=by rw [(g4 k).1,hat]
 have hW:=back_wf (q:=q) g1 (by rw [g3]; exact hkl) ((g4 k).2.2.2 (by rw [hat]; exact hkf)) hqk g2
 refine ⟨⟨⟨f1.len,f1.op,f1.fr,f1.q,f1.beh,?_,f1.work,f1.came⟩,?_,?_⟩,hW,by rw [f1.q,hqk],?_,by rw [f1.len,g3]; exact hkl⟩
 ·show (if _ then _ else _:List Nat) = if _ then _ else _
  rw [f1.turn]
 ·show p'.gone + (m.take1 k r q).fresh.qsum = (m.take1 k r q).fresh.puts
  rw [f2,g7,g6,h4]
  have:=h.gone
  show _ = m.puts
  omega
 ·show p'.count = (m.take1 k r q).fresh.opens
  rw [f3,g8,w3,h5,h.count]
 ·rw [f1.turn]
  have:=nd_len g1
  have:=g1.len
  omega

theorem kids_split {m:RM} {k n:Nat} (h:m.Wf0 fun _ => False) (hk:k < m.I.length) (j:Nat):kids (m.split1 k n) (fun i => ((m.split1 k n).at i).fr) j = if j = k then kids m (fun i => (m.at i).fr) k ++ List.range' m.I.length n else if j < m.I.length then kids m (fun i => (m.at i).fr) j else []:=by
 unfold kids
 rw [split1_len,List.range_eq_range',List.range'_append (step:=1) (n:=n) |>.symm,List.filter_append]
 simp only [Nat.zero_add,Nat.one_mul]
 rw [<-List.range_eq_range']
 have e1:((List.range m.I.length).filter fun i => !((m.split1 k n).at i).fr && decide (((m.split1 k n).at i).bh = (j:Int))) = (List.range m.I.length).filter fun i => !(m.at i).fr && decide ((m.at i).bh = (j:Int)) :=
  List.filter_congr fun i hi => by rw [split1_at (List.mem_range.1 hi)]
 have e2:((List.range' m.I.length n).filter fun i => !((m.split1 k n).at i).fr && decide (((m.split1 k n).at i).bh = (j:Int))) = if j = k then List.range' m.I.length n else []:=by
  by_cases hj:j = k
  ·subst hj
   rw [if_pos rfl]
   refine List.filter_eq_self.2 fun i hi => ?_
   have:=List.mem_range'_1.1 hi
   rw [split1_new this.1 this.2]; simp
  ·rw [if_neg hj]
   refine List.filter_eq_nil_iff.2 fun i hi => ?_
   have:=List.mem_range'_1.1 hi
   rw [split1_new this.1 this.2]
   simp; omega
 rw [e1,e2]
 by_cases hj:j = k
 ·subst hj; rw [if_pos rfl,if_pos rfl]
 ·rw [if_neg hj,if_neg hj,List.append_nil]
  split
  ·rfl
  ·refine List.filter_eq_nil_iff.2 fun i hi => ?_
   have:=h.rk i (List.mem_range.1 hi)
   have:=List.mem_range.1 hi
   simp; omega

theorem open_kids {p:PM} {m:RM} {x:Nat -> Prop} {k:Nat} (h:Abs0 p m) (hw:m.Wf0 x) (hk:k < m.I.length) (hop:(m.at k).op = true):(p.at k).beh = []:=by
 rw [h.beh k hk]
 refine List.filter_eq_nil_iff.2 fun i hi => ?_
 intro e
 simp at e
 have:=hw.bo i (List.mem_range.1 hi) (by rw [e.2]; omega)
 rw [e.2,Int.toNat_natCast,hop] at this
 cases this

theorem split_abs {p p1:PM} {m:RM} {k n:Nat} (h:Abs p m) (hw:m.Wf) (hk:k < m.I.length) (hop:(m.at k).op = true) (hn:m.I.length + n <= 4096)
  (hI:p1.I = (p.I ++ List.replicate n (⟨true,false,[],[]⟩:PI)).set k { p.at k with op:=false,beh:=(p.at k).beh ++ List.range' p.I.length n }) (h1:p1.turn = p.turn) (h2:p1.work = p.work + 1 + n) (h3:p1.came = p.came) (h4:p1.gone = p.gone) (h5:p1.count = p.count - 1 + n) :
  (Abs0 p1 ((m.shut k).split1 k n) /\ ((m.shut k).split1 k n).Wf0 fun _ => False) /\ ∀ p',Freed p1 k p' -> Abs p' ((m.shut k).split1 k n).fresh /\ ((m.shut k).split1 k n).fresh.Wf:=by
 obtain ⟨w1,w2,w3,w4⟩:=shut_wf hw hk hop
 have hsl:(m.shut k).I.length = m.I.length:=List.length_set
 obtain ⟨v1,v2,v3,v4⟩:=split1_wf (n:=n) w1 (by rw [hsl]; exact hk) (by rw [RM.set_at (m:=m.shut k) (I:=m.I) rfl hk,if_pos rfl]) (by rw [hsl]; exact hn) w2
 have hlen:=h.a.len
 have hpa:∀ j,p1.at j = if j = k then { p.at k with op:=false,beh:=(p.at k).beh ++ List.range' p.I.length n } else (p.I ++ List.replicate n (⟨true,false,[],[]⟩:PI)).getD j PI.no:=fun j => PM.set_at hI (by rw [List.length_append]; omega)
 have hpo:∀ j,j < p.I.length -> (p.I ++ List.replicate n (⟨true,false,[],[]⟩:PI)).getD j PI.no = p.at j:=fun j hj => by
  unfold PM.at; simp only [List.getD]; rw [List.getElem?_append_left hj]
 have hpn:∀ j,p.I.length <= j -> j < p.I.length + n -> (p.I ++ List.replicate n (⟨true,false,[],[]⟩:PI)).getD j PI.no = (⟨true,false,[],[]⟩:PI):=fun j hj hn => by
  simp only [List.getD]; rw [List.getElem?_append_right hj,List.getElem?_replicate,if_pos (by omega)]; rfl
 have hpx:∀ j,p.I.length + n <= j -> (p.I ++ List.replicate n (⟨true,false,[],[]⟩:PI)).getD j PI.no = PI.no:=fun j hj => by
  simp only [List.getD]; rw [List.getElem?_eq_none (by simp; omega)]; rfl
 have hsa:∀ j,(m.shut k).at j = if j = k then { m.at k with op:=false } else m.at j:=fun j => RM.set_at (I:=m.I) rfl hk
 have hma:∀ j,((m.shut k).split1 k n).at j = if j = k then { m.at k with op:=false } else if j < m.I.length then m.at j else if j < m.I.length + n then (⟨[],true,false,(k:Int)⟩:RI) else RI.no:=fun j => by
  by_cases h1:j < m.I.length
  ·rw [split1_at (by rw [hsl]; exact h1),hsa,if_pos h1]
  ·rw [if_neg h1,if_neg (by omega)]
   by_cases h2:j < m.I.length + n
   ·rw [if_pos h2,split1_new (by rw [hsl]; omega) (by rw [hsl]; exact h2)]
   ·rw [if_neg h2,at_ge (by rw [split1_len,hsl]; omega)]
 have key:∀ (P:PI -> RI -> Prop) (j:Nat),P { p.at k with op:=false,beh:=(p.at k).beh ++ List.range' p.I.length n } { m.at k with op:=false } -> (j < m.I.length -> P (p.at j) (m.at j)) -> P (⟨true,false,[],[]⟩:PI) (⟨[],true,false,(k:Int)⟩:RI) -> P PI.no RI.no -> P (p1.at j) (((m.shut k).split1 k n).at j):=fun P j a1 a2 a3 a4 => by
  rw [hpa,hma]
  by_cases hj:j = k
  ·rw [if_pos hj,if_pos hj]; exact a1
  ·rw [if_neg hj,if_neg hj]
   by_cases h1:j < m.I.length
   ·rw [if_pos h1,hpo j (by omega)]; exact a2 h1
   ·rw [if_neg h1]
    by_cases h2:j < m.I.length + n
    ·rw [if_pos h2,hpn j (by omega) (by omega)]; exact a3
    ·rw [if_neg h2,hpx j (by omega)]; exact a4
 have hA:Abs0 p1 ((m.shut k).split1 k n):=by
  refine ⟨by rw [hI,List.length_set,List.length_append,List.length_replicate,split1_len,hsl,hlen],fun j => ?_,fun j => ?_,fun j => ?_,fun j hj => ?_,h1.trans h.a.turn,by rw [h2,h.a.work]; rfl,by rw [h3,h.a.came]; rfl⟩
  ·exact key (fun a b => a.op = b.op) j rfl (fun _ => h.a.op j) rfl rfl
  ·exact key (fun a b => a.fr = b.fr) j (h.a.fr k) (fun _ => h.a.fr j) rfl rfl
  ·exact key (fun a b => a.q = b.q) j (h.a.q k) (fun _ => h.a.q j) rfl rfl
  ·rw [kids_split w1 (by rw [hsl]; exact hk),hsl]
   have hke:∀ b,kids (m.shut k) (fun i => ((m.shut k).at i).fr) b = kids m (fun i => (m.at i).fr) b:=fun b => by
    unfold kids
    rw [hsl]
    refine List.filter_congr fun i _ => ?_
    show (!((m.shut k).at i).fr && _) = (!(m.at i).fr && _)
    rw [hsa]
    split
    ·rename_i e; subst e; rfl
    ·rfl
   rw [hke,hke,hpa]
   rw [split1_len,hsl] at hj
   by_cases hjk:j = k
   ·rw [if_pos hjk,if_pos hjk,<-h.a.beh k hk,hlen]
   ·rw [if_neg hjk,if_neg hjk]
    by_cases hj1:j < m.I.length
    ·rw [if_pos hj1,hpo j (by omega)]; exact h.a.beh j hj1
    ·rw [if_neg hj1,hpn j (by omega) (by omega)]
 refine ⟨⟨hA,v1⟩,fun p' hf => ?_⟩
 have hkl:k < ((m.shut k).split1 k n).I.length:=by rw [split1_len,hsl]; omega
 obtain ⟨f1,f2,f3⟩:=freed_fresh hA (hA.ok v1) v1.ranked hkl v2 hf
 obtain ⟨g1,g2,g3,g4,g5,g6,g7,g8,_⟩:=fresh_wf v1 fun j hj => hj.elim
 refine ⟨⟨f1,?_,?_⟩,⟨g1,g2⟩⟩
 ·rw [f2,g7,v4,w4,g6,h4]; exact h.gone
 ·rw [f3,g8,v3,h5]
  have:=h.count
  have:=op_le hop
  omega
end Go.V
