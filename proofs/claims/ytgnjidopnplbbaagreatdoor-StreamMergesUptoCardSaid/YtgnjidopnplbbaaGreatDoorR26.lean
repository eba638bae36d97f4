import Derived.Test.YtgnjidopnplbbaaGreatDoorR25
/- Conditions: what a law does with a merger. -/
set_option maxRecDepth 1000000
set_option linter.unusedVariables false
namespace Go.V
open Go Go.Proofs

structure Ev where
 k:Int
 i:Int
 n:Int
 t:T
def Ev.v (e:Ev):AV:=.agg [.int .i64 e.k,.int .i64 e.i,.int .i64 e.n,.int .i64 e.t.k,.int .i64 e.t.n,.str e.t.s,.slice 4 (tcellL e.t.l) .any]
def itemC (x:Nat × T):AV:=.agg [.int .i64 (x.1:Int),.int .i64 x.2.k,.int .i64 x.2.n,.str x.2.s,.slice 4 (tcellL x.2.l) .any]
def RM.do (m:RM) (e:Ev):RM × List (Nat × T) × Int :=
 if e.k = 1 then ((m.put e.i e.t).1,[],(m.put e.i e.t).2)
 else if e.k = 2 then ((m.close e.i).1,[],(m.close e.i).2)
 else if e.k = 3 then ((m.split e.i e.n).1,[],(m.split e.i e.n).2.2)
 else (m.next.1,m.next.2.toList,0)
def C44s:Contract:=fun args σ K => ∃ (c:MH) (M:Nat) (m:RM),args = [.ptr M 0] /\ (At c σ /\ MRep c M m) /\
 ((m.next.2 = none -> ∀ (c':MH) (σ':State),(At c' σ' /\ MRep c' M m /\ Frame' c c') -> K (.tuple [.agg [.int .i64 0,.int .i64 0,.int .i64 0,.str ⟨⟨[]⟩⟩,.nilslice],.bool false]) σ') /\
  ∀ (x:Nat × T),m.next.2 = some x -> ∀ (c':MH) (σ':State),(At c' σ' /\ MRep c' M m.next.1 /\ Frame' c c') -> K (.tuple [itemC x,.bool true]) σ')
end Go.V
/- Conditions: the law StreamFair. -/
namespace Go.V
open Go Go.Proofs

def evL (l:List Ev):List AV:=l.map Ev.v
def evc (e:Ev):List AV:=[.int .i64 e.k,.int .i64 e.i,.int .i64 e.n,.int .i64 e.t.k,.int .i64 e.t.n,.str e.t.s,.slice 4 (tcellL e.t.l) .any]
def hEv:Hint:=Hint.as (fun e:Ev => .vptr (evc e))
def hNat:Hint:=Hint.as (fun n:Nat => .vptr [.int .i64 (n:Int)])
end Go.V
/- What a law does with a merger; the law StreamFair. -/
set_option linter.unusedSimpArgs false
set_option linter.unusedSectionVars false
namespace Go.V
open Go Go.Proofs

theorem next_cases {m:RM} (hW:m.Wf):(m.turn = [] /\ m.next = (m,none)) \/ ∃ k r t q,m.turn = k :: r /\ (m.at k).q = t :: q /\ m.next = ((m.take1 k r q).fresh.back k q,some (k,t)):=by
 cases ht:m.turn with
 | nil => exact .inl ⟨rfl,by unfold RM.next; rw [ht]⟩
 | cons k r =>
  obtain ⟨_,_,hkq,_⟩:=(hW.w.tm k).1 (by rw [ht]; simp)
  cases hq:(m.at k).q with
  | nil => exact absurd hq hkq
  | cons t q => exact .inr ⟨k,r,t,q,rfl,hq,by unfold RM.next; rw [ht]; dsimp only; rw [hq]⟩
section
variable {B:Nat} {w0:World} {G:Nat -> AV}
variable (hG:∀ i,NoId (G i))
include hG
theorem c44s_ok:ContractOk (EV B w0 G) 44 C44s:=by
 rintro args σ Q ⟨c,M,m,rfl,⟨hA,hR⟩,hQ1,hQ2⟩
 refine c44_ok hG _ _ _ ⟨c,M,m,rfl,⟨hA,hR⟩,fun c' σ' ⟨h1,h2,h3⟩ => ?_⟩
 obtain ⟨L,p,_,_,_,hW⟩:=hR
 rcases next_cases hW with ⟨_,e⟩ | ⟨k,r,t,q,_,_,e⟩
 ·rw [e] at h2 ⊢
  exact hQ1 (by rw [e]) c' σ' ⟨h1,h2,h3⟩
 ·have h4:=hQ2 (k,t) (by rw [e]) c' σ' ⟨h1,h2,h3⟩
  rw [e]
  exact h4
end

def noneH:MH:=fun _ => none
theorem noneH_at (σ:State):At noneH σ:=⟨fun r id o h => (by cases h),fun r s id o o' h => (by cases h)⟩
theorem noneH_xt:XT noneH:=fun i id o h => by cases h
theorem ev_get {l:List Ev} {i:Nat} (h:i < l.length):List.getD (evL l) i .undef = l[i].v:=by
 unfold evL; rw [List.getD,List.getElem?_map,List.getElem?_eq_getElem h]; rfl
theorem evL_len (l:List Ev):(evL l).length = l.length:=List.length_map _

section
variable {B:Nat} {w0:World}
end
end Go.V
