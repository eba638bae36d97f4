import Derived.Test.YtgnjidopnplbbaaGreatDoorN24
/- Conditions: what a law does with a merger. -/
set_option maxRecDepth 1000000
set_option linter.unusedVariables false
namespace Go.V
open Go Go.Proofs

structure Ev where
 k:Int
 i:Int
 n:Int
 t:T
def Ev.v (e:Ev):AV:=.agg [.int .i64 e.k,.int .i64 e.i,.int .i64 e.n,.int .i64 e.t.k,.int .i64 e.t.n,.str e.t.s,.slice 4 (tcellL e.t.l) .any]
def itemC (x:Nat × T):AV:=.agg [.int .i64 (x.1:Int),.int .i64 x.2.k,.int .i64 x.2.n,.str x.2.s,.slice 4 (tcellL x.2.l) .any]
def RM.do (m:RM) (e:Ev):RM × List (Nat × T) × Int :=
 if e.k = 1 then ((m.put e.i e.t).1,[],(m.put e.i e.t).2)
 else if e.k = 2 then ((m.close e.i).1,[],(m.close e.i).2)
 else if e.k = 3 then ((m.split e.i e.n).1,[],(m.split e.i e.n).2.2)
 else (m.next.1,m.next.2.toList,0)
def C44s:Contract:=fun args σ K => ∃ (c:MH) (M:Nat) (m:RM),args = [.ptr M 0] /\ (At c σ /\ MRep c M m) /\
 ((m.next.2 = none -> ∀ (c':MH) (σ':State),(At c' σ' /\ MRep c' M m /\ Frame' c c') -> K (.tuple [.agg [.int .i64 0,.int .i64 0,.int .i64 0,.str ⟨⟨[]⟩⟩,.nilslice],.bool false]) σ') /\
  ∀ (x:Nat × T),m.next.2 = some x -> ∀ (c':MH) (σ':State),(At c' σ' /\ MRep c' M m.next.1 /\ Frame' c c') -> K (.tuple [itemC x,.bool true]) σ')
def C45r:Contract:=fun args σ K => ∃ (c:MH) (M:Nat) (m:RM) (e:Ev),args = [.ptr M 0,e.v] /\ (At c σ /\ MRep c M m /\ XT c) /\
 ∀ (c':MH) (σ':State),(At c' σ' /\ MRep c' M (m.do e).1 /\ Frame' c c') -> K (.tuple [.slice 5 ((m.do e).2.1.map itemC) .any,.int .i64 (m.do e).2.2]) σ'
def H45 (E:Env):Hand:=hnd E annA noHints [(43,C43r),(56,C56r),(42,C42r),(44,C44s)]
theorem vc45 (B:Nat) (w0:World) (G:Nat -> AV) (σ:State) (M:Nat) (e:Ev) (Q:AV -> State -> Prop):(bodyC (EV B w0 G) (H45 (EV B w0 G)) (fun _ _ _ _ => False) annA noHint 45 [.ptr M 0,.agg [.int .i64 e.k,.int .i64 e.i,.int .i64 e.n,.int .i64 e.t.k,.int .i64 e.t.n,.str e.t.s,.slice 4 (tcellL e.t.l) .any]] σ Q) =
 ((bcase (((Ev.k e):Int) == 1)
 (∃ c0:MH,(∃ M1:Nat,(∃ m2:RM,(∃ i3:Int,(∃ t4:T,(([(AV.ptr (M) 0),(AV.int .i64 (Ev.i e)),(AV.agg [(AV.int .i64 (T.k (Ev.t e))),(AV.int .i64 (T.n (Ev.t e))),(AV.str (T.s (Ev.t e))),(AV.slice 4 (tcellL (T.l (Ev.t e))) Cap.any)])] = [(AV.ptr (M1) 0),(AV.int .i64 (i3)),(AV.agg [(AV.int .i64 (T.k t4)),(AV.int .i64 (T.n t4)),(AV.str (T.s t4)),(AV.slice 4 (tcellL (T.l t4)) Cap.any)])])/\
 (((At c0 σ)/\
 ((MRep c0 M1 m2)/\
 (XT c0)))/\
 (∀ c'5:MH,(∀ σ'6:State,(((At c'5 σ'6)/\
 ((MRep c'5 M1 (Prod.fst (RM.put m2 i3 t4)))/\
 (Frame' c0 c'5))) -> (Q (AV.tuple [AV.nilslice,(AV.int .i64 (Prod.snd (RM.put m2 i3 t4)))]) σ'6)))))))))))
 (bcase (((Ev.k e):Int) == 2)
 (∃ c0:MH,(∃ M1:Nat,(∃ m2:RM,(∃ i3:Int,(([(AV.ptr (M) 0),(AV.int .i64 (Ev.i e))] = [(AV.ptr (M1) 0),(AV.int .i64 (i3))])/\
 (((At c0 σ)/\
 (MRep c0 M1 m2))/\
 (∀ c'4:MH,(∀ σ'5:State,(((At c'4 σ'5)/\
 ((MRep c'4 M1 (Prod.fst (RM.close m2 i3)))/\
 (Frame' c0 c'4))) -> (Q (AV.tuple [AV.nilslice,(AV.int .i64 (Prod.snd (RM.close m2 i3)))]) σ'5))))))))))
 (bcase (((Ev.k e):Int) == 3)
 (∃ c0:MH,(∃ M1:Nat,(∃ m2:RM,(∃ i3:Int,(∃ n4:Int,(([(AV.ptr (M) 0),(AV.int .i64 (Ev.i e)),(AV.int .i64 (Ev.n e))] = [(AV.ptr (M1) 0),(AV.int .i64 (i3)),(AV.int .i64 (n4))])/\
 (((At c0 σ)/\
 (MRep c0 M1 m2))/\
 (∀ c'5:MH,(∀ σ'6:State,(((At c'5 σ'6)/\
 ((MRep c'5 M1 (Prod.fst (RM.split m2 i3 n4)))/\
 (Frame' c0 c'5))) -> (Q (AV.tuple [AV.nilslice,(AV.int .i64 (Prod.snd (Prod.snd (RM.split m2 i3 n4))))]) σ'6)))))))))))
 (∃ c0:MH,(∃ M1:Nat,(∃ m2:RM,(([(AV.ptr (M) 0)] = [(AV.ptr (M1) 0)])/\
 (((At c0 σ)/\
 (MRep c0 M1 m2))/\
 ((((Prod.snd (RM.next m2)) = Option.none) -> (∀ c'3:MH,(∀ σ'4:State,(((At c'3 σ'4)/\
 ((MRep c'3 M1 m2)/\
 (Frame' c0 c'3))) -> (Q (AV.tuple [AV.nilslice,(AV.int .i64 0)]) σ'4)))))/\
 (∀ x3:Nat × T,(((Prod.snd (RM.next m2)) = (Option.some (x3))) -> (∀ c'4:MH,(∀ σ'5:State,(((At c'4 σ'5)/\
 ((MRep c'4 M1 (Prod.fst (RM.next m2)))/\
 (Frame' c0 c'4))) -> (Q (AV.tuple [(AV.slice 5 [(AV.agg [(AV.int .i64 ((Prod.fst x3:Nat):Int)),(AV.int .i64 (T.k (Prod.snd x3))),(AV.int .i64 (T.n (Prod.snd x3))),(AV.str (T.s (Prod.snd x3))),(AV.slice 4 (tcellL (T.l (Prod.snd x3))) Cap.any)])] Cap.full),(AV.int .i64 0)]) σ'5)))))))))))))))):=by kernel_rfl
end Go.V
/- Conditions: the law StreamFair. -/
namespace Go.V
open Go Go.Proofs

def evL (l:List Ev):List AV:=l.map Ev.v
def evc (e:Ev):List AV:=[.int .i64 e.k,.int .i64 e.i,.int .i64 e.n,.int .i64 e.t.k,.int .i64 e.t.n,.str e.t.s,.slice 4 (tcellL e.t.l) .any]
def hEv:Hint:=Hint.as (fun e:Ev => .vptr (evc e))
def hNat:Hint:=Hint.as (fun n:Nat => .vptr [.int .i64 (n:Int)])
end Go.V
/- What a law does with a merger; the law StreamFair. -/
set_option linter.unusedSimpArgs false
set_option linter.unusedSectionVars false
namespace Go.V
open Go Go.Proofs

theorem next_cases {m:RM} (hW:m.Wf):(m.turn = [] /\ m.next = (m,none)) \/ ∃ k r t q,m.turn = k :: r /\ (m.at k).q = t :: q /\ m.next = ((m.take1 k r q).fresh.back k q,some (k,t)):=by
 cases ht:m.turn with
 | nil => exact .inl ⟨rfl,by unfold RM.next; rw [ht]⟩
 | cons k r =>
  obtain ⟨_,_,hkq,_⟩:=(hW.w.tm k).1 (by rw [ht]; simp)
  cases hq:(m.at k).q with
  | nil => exact absurd hq hkq
  | cons t q => exact .inr ⟨k,r,t,q,rfl,hq,by unfold RM.next; rw [ht]; dsimp only; rw [hq]⟩
section
variable {B:Nat} {w0:World} {G:Nat -> AV}
variable (hG:∀ i,NoId (G i))
include hG
theorem c44s_ok:ContractOk (EV B w0 G) 44 C44s:=by
 rintro args σ Q ⟨c,M,m,rfl,⟨hA,hR⟩,hQ1,hQ2⟩
 refine c44_ok hG _ _ _ ⟨c,M,m,rfl,⟨hA,hR⟩,fun c' σ' ⟨h1,h2,h3⟩ => ?_⟩
 obtain ⟨L,p,_,_,_,hW⟩:=hR
 rcases next_cases hW with ⟨_,e⟩ | ⟨k,r,t,q,_,_,e⟩
 ·rw [e] at h2 ⊢
  exact hQ1 (by rw [e]) c' σ' ⟨h1,h2,h3⟩
 ·have h4:=hQ2 (k,t) (by rw [e]) c' σ' ⟨h1,h2,h3⟩
  rw [e]
  exact h4
theorem H45_ok:HOk1 (EV B w0 G) (H45 (EV B w0 G)):=hnd_ok (EV_mixed B w0 G) (contracts_cons (c43_ok hG) (contracts_cons (c56_ok hG) (contracts_cons (c42_ok hG) (contracts_cons (c44s_ok hG) contracts_nil))))
theorem c45_ok:ContractOk (EV B w0 G) 45 C45r:=by
 rintro args σ Q ⟨c,M,m,e,rfl,⟨hA,hR,hX⟩,hQ⟩
 refine ACalls.post_wk ?_
 refine bodyC_ok (EV_mixed B w0 G) (H45_ok hG) (fun l hl _ Q a σ k => k.elim) ((vc45 B w0 G σ M e _).mpr ?_)
 have wk:∀ (xs:List AV) (m:Cap) (e:Int),Wk (.tuple [.slice 5 xs m,.int .i64 e]) (.tuple [.slice 5 xs .any,.int .i64 e]):=fun xs m e => Wk.tuple (.cons (Wk.slice 5 xs m) (.refl _))
 have wk0:∀ e:Int,Wk (.tuple [.nilslice,.int .i64 e]) (.tuple [.slice 5 [] .any,.int .i64 e]):=fun e => Wk.tuple (.cons (Wk.nil 5) (.refl _))
 refine bcase_of (fun h => ?_) (fun h => bcase_of (fun h2 => ?_) (fun h2 => bcase_of (fun h3 => ?_) (fun h3 => ?_)))
 ·have h:e.k = 1:=by simpa using h
  have hd:m.do e = ((m.put e.i e.t).1,[],(m.put e.i e.t).2):=by unfold RM.do; rw [if_pos h]
  rw [hd] at hQ
  exact ⟨c,M,m,e.i,e.t,rfl,⟨hA,hR,hX⟩,fun c' σ' k => ⟨_,σ',wk0 _,.refl _,hQ c' σ' k⟩⟩
 ·have h:e.k ≠ 1:=by simpa using h
  have h2:e.k = 2:=by simpa using h2
  have hd:m.do e = ((m.close e.i).1,[],(m.close e.i).2):=by unfold RM.do; rw [if_neg h,if_pos h2]
  rw [hd] at hQ
  exact ⟨c,M,m,e.i,rfl,⟨hA,hR⟩,fun c' σ' k => ⟨_,σ',wk0 _,.refl _,hQ c' σ' k⟩⟩
 ·have h:e.k ≠ 1:=by simpa using h
  have h2:e.k ≠ 2:=by simpa using h2
  have h3:e.k = 3:=by simpa using h3
  have hd:m.do e = ((m.split e.i e.n).1,[],(m.split e.i e.n).2.2):=by unfold RM.do; rw [if_neg h,if_neg h2,if_pos h3]
  rw [hd] at hQ
  exact ⟨c,M,m,e.i,e.n,rfl,⟨hA,hR⟩,fun c' σ' k => ⟨_,σ',wk0 _,.refl _,hQ c' σ' k⟩⟩
 ·have h:e.k ≠ 1:=by simpa using h
  have h2:e.k ≠ 2:=by simpa using h2
  have h3:e.k ≠ 3:=by simpa using h3
  have hd:m.do e = (m.next.1,m.next.2.toList,0):=by unfold RM.do; rw [if_neg h,if_neg h2,if_neg h3]
  rw [hd] at hQ
  obtain ⟨L,p,_,_,_,hW⟩:=hR
  refine ⟨c,M,m,rfl,⟨hA,L,p,by assumption,by assumption,by assumption,hW⟩,fun hn c' σ' k => ⟨_,σ',wk0 _,.refl _,?_⟩,fun x hx c' σ' k => ⟨_,σ',wk _ _ _,.refl _,?_⟩⟩
  ·rw [hn] at hQ
   have hm:m.next.1 = m:=by
    rcases next_cases hW with ⟨_,e⟩ | ⟨k,r,t,q,_,_,e⟩
    ·rw [e]
    ·rw [e] at hn; cases hn
   rw [hm] at hQ
   exact hQ c' σ' k
  ·rw [hx] at hQ
   exact hQ c' σ' k
end

def noneH:MH:=fun _ => none
theorem noneH_at (σ:State):At noneH σ:=⟨fun r id o h => (by cases h),fun r s id o o' h => (by cases h)⟩
theorem noneH_xt:XT noneH:=fun i id o h => by cases h
theorem ev_get {l:List Ev} {i:Nat} (h:i < l.length):List.getD (evL l) i .undef = l[i].v:=by
 unfold evL; rw [List.getD,List.getElem?_map,List.getElem?_eq_getElem h]; rfl
theorem evL_len (l:List Ev):(evL l).length = l.length:=List.length_map _

section
variable {B:Nat} {w0:World}
end
end Go.V
