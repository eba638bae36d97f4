import Derived.Test.YtgnjidopnplbbaaGreatDoorV13
/- Conditions: Check, Same. -/
set_option maxRecDepth 1000000
set_option linter.unusedVariables false
namespace Go.V
open Go Go.Proofs

def chkT (t:T):Int:=if count t 4000 600 > 4000 then 3 else 0
def C129:Contract:=fun args σ K => args = [] /\ K formsV σ.untok
mutual
def T.small:T -> Prop
 | .mk _ _ _ l => l.length <= 64 /\ smallL l
def smallL:List T -> Prop
 | [] => True
 | x :: l => x.small /\ smallL l
end

mutual
def same:T -> T -> Bool
 | .mk k n s l,u => k == u.k && (n == u.n && (bseq s u.s && (((l.length:Int) == (u.l.length:Int)) && sameL l u.l)))
def sameL:List T -> List T -> Bool
 | x :: l,y :: m => same x y && sameL l m
 | _,_ => true
end

end Go.V
/- Check, Same. -/
set_option linter.unusedSimpArgs false
set_option linter.unusedSectionVars false
namespace Go.V
open Go Go.Proofs

theorem T.small_len {t:T} (h:t.small):t.l.length <= 64:=by
 cases t; rw [T.small] at h; exact h.1
theorem smallL_mem:∀ {l:List T},smallL l -> ∀ x ∈ l,x.small
 | [],_,x,hx => by cases hx
 | y :: l,h,x,hx => by
  rw [smallL] at h
  rcases List.mem_cons.1 hx with rfl | hx
  ·exact h.1
  ·exact smallL_mem h.2 x hx
theorem T.small_mem {t x:T} (h:t.small) (hx:x ∈ t.l):x.small:=by
 cases t; rw [T.small] at h; exact smallL_mem h.2 x hx

theorem same_eq (x y:T):same x y = (x.k == y.k && (x.n == y.n && (bseq x.s y.s && (((x.l.length:Int) == (y.l.length:Int)) && sameL x.l y.l)))):=by
 cases x; rw [same]; rfl
theorem sameL_drop {l m:List T} {i:Nat} (h1:i < l.length) (h2:i < m.length):sameL (l.drop i) (m.drop i) = (same l[i] m[i] && sameL (l.drop (i + 1)) (m.drop (i + 1))):=by
 rw [List.drop_eq_getElem_cons h1,List.drop_eq_getElem_cons h2,sameL]

section
variable {B:Nat} {w0:World} {G:Nat -> AV}

theorem forms_runs (B:Nat) (w0:World) (G:Nat -> AV):callB (EV B w0 G) annA (fun _ => none) 300 200 (.fn 129) [] noObj (cameB formsV) = true:=by kernel_rfl

variable (hG:∀ i,NoId (G i))
include hG
theorem c129_ok:ContractOk (EV B w0 G) 129 C129:=by
 rintro args σ Q ⟨rfl,hQ⟩
 refine ACalls.pureD 60 hG (by simp) (callB_ok (EV_mixed B w0 G) (T:=fun _ => none) (fun f h e => by cases e) 200 (.fn 129) [] noObj _ (forms_runs B w0 G)) fun v σ' k => ?_
 unfold cameB at k
 split at k
 ·rename_i v' hv'
  have:=AV.same_ok _ _ k
  subst this
  exact ⟨_,_,hv',.refl _,formsV_noId hG,hQ⟩
 ·cases k

end
end Go.V
/- Conditions: copies of terms. -/
namespace Go.V
open Go Go.Proofs

end Go.V
/- Copies of terms. -/
namespace Go.V
open Go Go.Proofs

theorem tcellL_sz (l:List T):∀ x ∈ tcellL l,x.cells.length = 4:=by
 intro x hx
 rw [tcellL_eq,List.mem_map] at hx
 obtain ⟨t,_,rfl⟩:=hx
 rw [tcell_eq]; rfl
theorem flat_tcellL_length (l:List T):(flat (tcellL l)).length = l.length * 4:=by
 rw [flat_length (tcellL_sz l),tcellL_length]
mutual
theorem deep_tcell (P:Program) (σ:State):∀ (t:T) (n:Nat),2 * SizeOf.sizeOf t < n -> deep P σ n (tcell t) = some (tcell t)
 | .mk k m s l,0,h => by omega
 | .mk k m s l,1,h => by simp at h; omega
 | .mk k m s l,n + 2,h => by
  have hl:(tcellL l).mapM (deep P σ n) = some (tcellL l):=deep_tcellL P σ l n (by simp at h; omega)
  rw [tcell]
  simp only [deep,List.mapM_cons,List.mapM_nil,Option.pure_def,Option.bind_eq_bind,Option.bind_some,hl,Option.map_some,nnCap]
theorem deep_tcellL (P:Program) (σ:State):∀ (l:List T) (n:Nat),2 * SizeOf.sizeOf l < n -> (tcellL l).mapM (deep P σ n) = some (tcellL l)
 | [],n,h => by simp [tcellL]
 | t :: l,n,h => by
  rw [tcellL,List.mapM_cons,deep_tcell P σ t n (by simp at h; omega),deep_tcellL P σ l n (by simp at h; omega)]
  rfl
end

section
variable {B:Nat} {w0:World} {G:Nat -> AV}
variable (hG:∀ i,NoId (G i))
include hG
end
end Go.V
