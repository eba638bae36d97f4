import Derived.Test.YtgnjidopnplbbaaGreatDoorG34
/- Conditions: Ground; the items of lists. -/
set_option maxRecDepth 1000000
set_option linter.unusedVariables false
namespace Go.V
open Go Go.Proofs

def H103 (E:Env) (N:Nat):Hand:=hnd E annA noHints [(129,C129),(130,C130 N),(148,C148)]
theorem vc103 (B:Nat) (w0:World) (G:Nat -> AV) (N:Nat) (t:T) (Q:AV -> State -> Prop):(bodyC (EV B w0 G) (H103 (EV B w0 G) N) (fun _ _ _ _ => False) annA noHint 103 [.agg (tc t)] noObj Q) =
 (((([]:List AV) = []) /\
 (∃ t0:T,(∃ left1:Int,(∃ deep2:Int,(([(AV.agg [(AV.int IntKind.i64 (T.k t)),(AV.int IntKind.i64 (T.n t)),(AV.str (T.s t)),(AV.slice 4 (tcellL (T.l t)) Cap.any)]),(AV.int IntKind.i64 4000),(AV.int IntKind.i64 600),(AV.agg [AV.nilfunc,(AV.func (Go.Fn.func 151) [] [(AV.vptr [(AV.func (Go.Fn.func 150) [] [])])]),(AV.func (Go.Fn.func 152) [] [(AV.vptr [(AV.func (Go.Fn.func 150) [] [])])]),(AV.func (Go.Fn.func 153) [] [(AV.vptr [(AV.func (Go.Fn.func 150) [] [])])]),(AV.func (Go.Fn.func 155) [] [(AV.vptr [(AV.func (Go.Fn.func 150) [] [])])]),(AV.func (Go.Fn.func 156) [] [(AV.vptr [(AV.func (Go.Fn.func 150) [] [])])]),(AV.func (Go.Fn.func 157) [] [(AV.vptr [(AV.func (Go.Fn.func 150) [] [])])])])] = [(AV.agg [(AV.int IntKind.i64 (T.k t0)),(AV.int IntKind.i64 (T.n t0)),(AV.str (T.s t0)),(AV.slice 4 (tcellL (T.l t0)) Cap.any)]),(AV.int IntKind.i64 (left1)),(AV.int IntKind.i64 (deep2)),(AV.agg [AV.nilfunc,(AV.func (Go.Fn.func 151) [] [(AV.vptr [(AV.func (Go.Fn.func 150) [] [])])]),(AV.func (Go.Fn.func 152) [] [(AV.vptr [(AV.func (Go.Fn.func 150) [] [])])]),(AV.func (Go.Fn.func 153) [] [(AV.vptr [(AV.func (Go.Fn.func 150) [] [])])]),(AV.func (Go.Fn.func 155) [] [(AV.vptr [(AV.func (Go.Fn.func 150) [] [])])]),(AV.func (Go.Fn.func 156) [] [(AV.vptr [(AV.func (Go.Fn.func 150) [] [])])]),(AV.func (Go.Fn.func 157) [] [(AV.vptr [(AV.func (Go.Fn.func 150) [] [])])])])]) /\
 ((((SizeOf.sizeOf t0):Nat) < (N)) /\
 (bcase (decide (((count t0 left1 deep2):Int) > 4000))
 (Q (AV.tuple [(AV.bool false),(AV.int IntKind.i64 3)]) (State.untok (State.untok (noObj))))
 (∃ l3:List T,(∃ m4:Cap,(([(AV.slice 4 [(AV.agg [(AV.int IntKind.i64 (T.k t)),(AV.int IntKind.i64 (T.n t)),(AV.str (T.s t)),(AV.slice 4 (tcellL (T.l t)) Cap.any)])] Cap.full)] = [(AV.slice 4 (tcellL l3) (m4))]) /\
 ((((List.length (nodesTL l3)):Nat) <= 100000) /\
 (∀ σ'5:State,(((∀ x6:T,((x6 ∈ nodesTL l3) -> (((T.k x6):Int) ≠ 1))) -> (Q (AV.tuple [(AV.bool true),(AV.int IntKind.i64 0)]) σ'5)) /\
 (∀ ov6:Nat,(∀ n7:Nat,(((0:Nat) < (n7)) -> ((∃ x8:T,((x8 ∈ nodesTL l3) /\
 (((T.k x8):Int) = 1))) -> (bcase (((((n7):Nat):Int):Int) == 0)
 (Q (AV.tuple [(AV.bool true),(AV.int IntKind.i64 0)]) σ'5)
 (Q (AV.tuple [(AV.bool false),(AV.int IntKind.i64 0)]) σ'5)))))))))))))))))))):=by kernel_rfl
end Go.V
/- Ground. -/
set_option linter.unusedSimpArgs false
set_option linter.unusedSectionVars false
namespace Go.V
open Go Go.Proofs

mutual
theorem nodesT_size:∀ t:T,(nodesT t).length = t.size
 | .mk k n s l => by rw [nodesT,T.size,List.length_cons,nodesTL_size l]; omega
theorem nodesTL_size:∀ l:List T,(nodesTL l).length = sizeL l
 | [] => rfl
 | x :: l => by rw [nodesTL,sizeL,List.length_append,nodesT_size x,nodesTL_size l]
end
theorem chk_size {t:T} (h:chkT t = 0):t.size <= 4000:=by
 rw [chkT_isR] at h
 split at h
 ·rename_i k
  unfold isR at k
  simp only [Bool.and_eq_true,decide_eq_true_eq] at k
  omega
 ·cases h
def grT (t:T):Bool:=decide (chkT t = 0) && (nodesT t).all fun x => decide (x.k ≠ 1)
def C103:Contract:=fun args σ K => ∃ t:T,args = [.agg (tc t)] /\ K (.tuple [.bool (grT t),.int .i64 (chkT t)]) σ.untok

section
variable {B:Nat} {w0:World} {G:Nat -> AV}
variable (hG:∀ i,NoId (G i))
include hG
theorem c103_ok:ContractOk (EV B w0 G) 103 C103:=by
 rintro args σ Q ⟨t,rfl,hQ⟩
 refine pure_of hG (fun v hv => ?_) ((noIdB_ok _ (show noIdB (.tuple [.bool (grT t),.int .i64 (chkT t)]) = true from rfl)).1) (fun Q hQ => ?_) hQ
 ·simp only [List.mem_cons,List.not_mem_nil,or_false] at hv
  subst hv
  exact agg_tc_noId t
 refine bodyC_ok (EV_mixed B w0 G) (hnd_ok (EV_mixed B w0 G) (contracts_cons (c129_ok hG) (contracts_cons (c130_ok hG (SizeOf.sizeOf t + 1)) (contracts_cons c148_ok contracts_nil)))) (fun l hl _ Q a σ k => k.elim) ((vc103 B w0 G (SizeOf.sizeOf t + 1) t Q).mpr ?_)
 refine ⟨rfl,t,4000,600,rfl,Nat.lt_succ_self _,bcase_of (fun h => ?_) (fun h => ?_)⟩
 ·have h:count t 4000 600 > 4000:=of_decide_eq_true h
  have e:chkT t = 3:=by unfold chkT; rw [if_pos h]
  have e2:grT t = false:=by unfold grT; rw [e]; rfl
  rw [e,e2] at hQ
  exact hQ _
 ·have h:¬ count t 4000 600 > 4000:=of_decide_eq_false h
  have e:chkT t = 0:=by unfold chkT; rw [if_neg h]
  have hs:=chk_size e
  have hn:nodesTL [t] = nodesT t:=by rw [nodesTL,nodesTL,List.append_nil]
  rw [e] at hQ
  refine ⟨[t],.full,(by rw [tcellL,tcell_eq,tcellL]; rfl),by rw [hn,nodesT_size]; omega,fun σ' => ⟨fun hg => ?_,fun ov n hn0 hv => bcase_of (fun h => ?_) (fun h => ?_)⟩⟩
  ·have e2:grT t = true:=by
    unfold grT; rw [e]
    simp only [decide_true,Bool.true_and,List.all_eq_true,decide_eq_true_eq]
    rw [hn] at hg; exact hg
   rw [e2] at hQ; exact hQ _
  ·have:n = 0:=by simpa using h
   omega
  ·have e2:grT t = false:=by
    cases hgt:grT t with
    | false => rfl
    | true =>
     unfold grT at hgt
     simp only [Bool.and_eq_true,List.all_eq_true,decide_eq_true_eq] at hgt
     obtain ⟨x,hx,hx1⟩:=hv
     rw [hn] at hx
     exact absurd hx1 (hgt.2 x hx)
   rw [e2] at hQ; exact hQ _
end
end Go.V
