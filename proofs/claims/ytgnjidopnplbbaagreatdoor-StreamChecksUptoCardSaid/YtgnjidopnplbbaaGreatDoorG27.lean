import Derived.Test.YtgnjidopnplbbaaGreatDoorG26
/- Conditions: the reference's mergers: isOpen, copied. -/
set_option maxRecDepth 1000000
set_option linter.unusedVariables false
namespace Go.V
open Go Go.Proofs

def rcells (x:RI):List AV:=[.slice 4 (tcellL x.q) .any,.bool x.op,.bool x.fr,.int .i64 x.bh]
def rL (l:List RI):List AV:=l.map fun x => .agg (rcells x)
end Go.V
/- The reference's mergers: isOpen, copied. -/
set_option linter.unusedSimpArgs false
set_option linter.unusedSectionVars false
namespace Go.V
open Go Go.Proofs

theorem SlAt.one {c:MH} {r:MRole} {e sz:Nat} {v:AV} {cs:List AV} (h:SlAt c r e sz v cs):v.one = true:=by
 cases h <;> rfl

section
variable {B:Nat} {w0:World} {G:Nat -> AV}
end
end Go.V
/- Conditions: the reference's fresh. -/
namespace Go.V
open Go Go.Proofs

end Go.V
/- The reference's fresh. -/
namespace Go.V
open Go Go.Proofs

def rcl (v:AV) (x:RI):List AV:=[v,.bool x.op,.bool x.fr,.int .i64 x.bh]
def rLq:List AV -> List RI -> List AV
 | v :: qs,x :: l => .agg (rcl v x) :: rLq qs l
 | _,_ => []
theorem flat_rLq_len:∀ {qs:List AV} {l:List RI},qs.length = l.length -> (flat (rLq qs l)).length = l.length * 4
 | [],[],_ => rfl
 | v :: qs,x :: l,h => by
  show (flat (.agg (rcl v x) :: rLq qs l)).length = _
  rw [flat_cons,List.length_append,flat_rLq_len (by simpa using h)]
  show 4 + l.length * 4 = _
  simp; omega
 | [],x :: l,h => by simp at h
 | v :: qs,[],h => by simp at h
def QV (v:AV) (q:List T):Prop:=v = .slice 4 (tcellL q) .any \/ (v = .nilslice /\ q = [])
structure QsOk (qs:List AV) (m:RM):Prop where
 len:qs.length = m.I.length
 ok:∀ k,k < m.I.length -> QV (qs.getD k .undef) (m.at k).q
 old:∀ i,i < m.I.length -> (m.at i).fr = false -> qs.getD (m.at i).bh.toNat .undef = .slice 4 (tcellL (m.at (m.at i).bh.toNat).q) .any

def mj (m:RM) (j:Nat):RM:=(List.range j).foldl freshAt m
theorem mj_succ (m:RM) (j:Nat):mj m (j + 1) = freshAt (mj m j) j:=by
 unfold mj; rw [List.range_succ,List.foldl_append]; rfl
theorem freshAt_len (m:RM) (j:Nat):(freshAt m j).I.length = m.I.length:=by
 unfold freshAt; split
 ·exact List.length_set
 ·rfl
theorem mj_len (m:RM) (j:Nat):(mj m j).I.length = m.I.length:=by
 induction j with
 | zero => rfl
 | succ j ih => rw [mj_succ,freshAt_len,ih]
theorem mj_q (m:RM) (j k:Nat):((mj m j).at k).q = (m.at k).q /\ ((mj m j).at k).op = (m.at k).op /\ ((mj m j).at k).bh = (m.at k).bh:=by
 induction j with
 | zero => exact ⟨rfl,rfl,rfl⟩
 | succ j ih =>
  rw [mj_succ]
  unfold freshAt
  split
  ·have e:RM.at { mj m j with I:=(mj m j).I.set j { (mj m j).at j with fr:=true },turn:=if ((mj m j).at j).q.isEmpty then (mj m j).turn else (mj m j).turn ++ [j] } k = if j = k /\ k < (mj m j).I.length then { (mj m j).at j with fr:=true } else (mj m j).at k:=getD_set _ _ _ _ _
   rw [e]
   split
   ·rename_i h; obtain ⟨rfl,_⟩:=h; exact ih
   ·exact ih
  ·exact ih
theorem fresh_work (m:RM):m.fresh.work = m.work /\ m.fresh.puts = m.puts:=by
 show (mj m m.I.length).work = m.work /\ (mj m m.I.length).puts = m.puts
 generalize m.I.length = j
 induction j with
 | zero => exact ⟨rfl,rfl⟩
 | succ j ih =>
  rw [mj_succ]
  unfold freshAt
  split <;> exact ih

def RoAt (c:MH) (r:MRole) (e sz:Nat) (v:AV) (cs:List AV):Prop:=(v = .nilslice /\ cs = []) \/ ∃ (id off n:Nat) (g:Bool) (pre:List AV),v = .rslice id off n /\ c r = some (id,.cells (pre ++ cs) e sz g) /\ pre.length = off * sz /\ cs.length = n * sz
theorem RoAt.congr {c c':MH} {r:MRole} {e sz:Nat} {v:AV} {cs:List AV} (h:RoAt c r e sz v cs) (hc:c' r = c r):RoAt c' r e sz v cs:=by
 rcases h with h | ⟨id,off,n,g,pre,h1,h2,h3⟩
 ·exact .inl h
 ·exact .inr ⟨id,off,n,g,pre,h1,hc.trans h2,h3⟩
theorem at_get {m:RM} {i:Nat} (h:i < m.I.length):m.I[i] = m.at i:=by
 unfold RM.at; simp [List.getD,List.getElem?_eq_getElem h]

section
variable {B:Nat} {w0:World} {G:Nat -> AV}
end
end Go.V
