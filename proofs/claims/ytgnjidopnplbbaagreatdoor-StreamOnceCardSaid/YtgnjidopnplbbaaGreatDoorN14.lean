import Derived.Test.YtgnjidopnplbbaaGreatDoorN13
/- Conditions: Check, Same. -/
set_option maxRecDepth 1000000
set_option linter.unusedVariables false
namespace Go.V
open Go Go.Proofs

def chkT (t:T):Int:=if count t 4000 600 > 4000 then 3 else 0
def C129:Contract:=fun args σ K => args = [] /\ K formsV σ.untok
def H66 (E:Env) (N:Nat):Hand:=hnd E annA noHints [(129,C129),(130,C130 N)]
theorem vc66 (B:Nat) (w0:World) (G:Nat -> AV) (N:Nat) (t:T) (Q:AV -> State -> Prop):(bodyC (EV B w0 G) (H66 (EV B w0 G) N) (fun _ _ _ _ => False) annA noHint 66 [.agg (tc t)] noObj Q) =
 (((([]:List AV) = [])/\
 (∃ t0:T,(∃ left1:Int,(∃ deep2:Int,(([(AV.agg [(AV.int .i64 (T.k t)),(AV.int .i64 (T.n t)),(AV.str (T.s t)),(AV.slice 4 (tcellL (T.l t)) Cap.any)]),(AV.int .i64 4000),(AV.int .i64 600),(AV.agg [AV.nilfunc,(AV.func (Go.Fn.func 151) [] [(AV.vptr [(AV.func (Go.Fn.func 150) [] [])])]),(AV.func (Go.Fn.func 152) [] [(AV.vptr [(AV.func (Go.Fn.func 150) [] [])])]),(AV.func (Go.Fn.func 153) [] [(AV.vptr [(AV.func (Go.Fn.func 150) [] [])])]),(AV.func (Go.Fn.func 155) [] [(AV.vptr [(AV.func (Go.Fn.func 150) [] [])])]),(AV.func (Go.Fn.func 156) [] [(AV.vptr [(AV.func (Go.Fn.func 150) [] [])])]),(AV.func (Go.Fn.func 157) [] [(AV.vptr [(AV.func (Go.Fn.func 150) [] [])])])])] = [(AV.agg [(AV.int .i64 (T.k t0)),(AV.int .i64 (T.n t0)),(AV.str (T.s t0)),(AV.slice 4 (tcellL (T.l t0)) Cap.any)]),(AV.int .i64 (left1)),(AV.int .i64 (deep2)),(AV.agg [AV.nilfunc,(AV.func (Go.Fn.func 151) [] [(AV.vptr [(AV.func (Go.Fn.func 150) [] [])])]),(AV.func (Go.Fn.func 152) [] [(AV.vptr [(AV.func (Go.Fn.func 150) [] [])])]),(AV.func (Go.Fn.func 153) [] [(AV.vptr [(AV.func (Go.Fn.func 150) [] [])])]),(AV.func (Go.Fn.func 155) [] [(AV.vptr [(AV.func (Go.Fn.func 150) [] [])])]),(AV.func (Go.Fn.func 156) [] [(AV.vptr [(AV.func (Go.Fn.func 150) [] [])])]),(AV.func (Go.Fn.func 157) [] [(AV.vptr [(AV.func (Go.Fn.func 150) [] [])])])])])/\
 ((SizeOf.sizeOf t0 < N)/\
 (bcase (decide (count t0 left1 deep2 > 4000))
 (Q (AV.int .i64 3) (State.untok (State.untok noObj)))
 (Q (AV.int .i64 0) (State.untok (State.untok noObj))))))))))):=by kernel_rfl
def C66:Contract:=fun args σ K => ∃ t:T,args = [.agg (tc t)] /\ K (.int .i64 (chkT t)) σ.untok

mutual
def T.small:T -> Prop
 | .mk _ _ _ l => l.length <= 64 /\ smallL l
def smallL:List T -> Prop
 | [] => True
 | x :: l => x.small /\ smallL l
end

mutual
def same:T -> T -> Bool
 | .mk k n s l,u => k == u.k && (n == u.n && (bseq s u.s && (((l.length:Int) == (u.l.length:Int)) && sameL l u.l)))
def sameL:List T -> List T -> Bool
 | x :: l,y :: m => same x y && sameL l m
 | _,_ => true
end

def C33 (N:Nat):Contract:=fun args σ K => ∃ (a b:T),args = [.agg (tc a),.agg (tc b)] /\ (a.small /\ SizeOf.sizeOf a < N) /\ K (.bool (same a b)) σ.untok
def H33 (E:Env) (N:Nat):Hand:=hnd E annA noHints [(33,C33 N)]
def N33:FnHint:=fun id i => match Nat.beq id 6 && (Nat.beq i 3 || Nat.beq i 8) with
 | true => Hint.as (fun t:T => .vptr (tc t))
 | false => Hint.no
def li33 (x y:T):LI Nat where
 F i:=[(2,.l 2 0),(3,.l 3 0),(5,.v (.int .i64 i))]
 FL _:=[(2,tc x),(3,tc y)]
 L _:=[]
 m _:=0
 I i:=i <= x.l.length /\ sameL x.l y.l = sameL (x.l.drop i) (y.l.drop i)
 μ i:=x.l.length - i
 Ex _ e a σ:=match e with
  | .exit 0 => sameL x.l y.l = true /\ atFS a σ [] [] [] 0
  | .ret => sameL x.l y.l = false /\ atFS a σ [(4,.v (.bool false))] [] [] 0
  | _ => False
theorem fnLoops_33:fnLoops Tryz.prog 33 = [.loop (lbody Tryz.prog 33 0)]:=by kernel_rfl
theorem vc33l (B:Nat) (w0:World) (G:Nat -> AV) (N:Nat) (x y:T) (i:Nat):(wpC (EV B w0 G) (H33 (EV B w0 G) N) (fun _ _ _ _ => False) (annA 33) N33 (lbody Tryz.prog 33 0) ((li33 x y).post i) (frm ((li33 x y).F i) ((li33 x y).FL i)) (lst ((li33 x y).L i) ((li33 x y).m i))) =
 ((bcase (decide ((↑i:Int) < (↑(List.length (tcellL (T.l x))):Int)))
 (((0 <= (↑i:Int))/\
 ((↑i:Int) < (↑(List.length (tcellL (T.l x))):Int)))/\
 (∃ x0:T,(((AV.vptr (AV.cells (List.getD (tcellL (T.l x)) (Int.toNat (↑i:Int)) AV.undef))) = (AV.vptr [(AV.int .i64 (T.k x0)),(AV.int .i64 (T.n x0)),(AV.str (T.s x0)),(AV.slice 4 (tcellL (T.l x0)) Cap.any)]))/\
 (((0 <= (↑i:Int))/\
 ((↑i:Int) < (↑(List.length (tcellL (T.l y))):Int)))/\
 (∃ x1:T,(((AV.vptr (AV.cells (List.getD (tcellL (T.l y)) (Int.toNat (↑i:Int)) AV.undef))) = (AV.vptr [(AV.int .i64 (T.k x1)),(AV.int .i64 (T.n x1)),(AV.str (T.s x1)),(AV.slice 4 (tcellL (T.l x1)) Cap.any)]))/\
 (∃ a2:T,(∃ b3:T,(([(AV.agg [(AV.int .i64 (T.k x0)),(AV.int .i64 (T.n x0)),(AV.str (T.s x0)),(AV.slice 4 (tcellL (T.l x0)) Cap.any)]),(AV.agg [(AV.int .i64 (T.k x1)),(AV.int .i64 (T.n x1)),(AV.str (T.s x1)),(AV.slice 4 (tcellL (T.l x1)) Cap.any)])] = [(AV.agg [(AV.int .i64 (T.k a2)),(AV.int .i64 (T.n a2)),(AV.str (T.s a2)),(AV.slice 4 (tcellL (T.l a2)) Cap.any)]),(AV.agg [(AV.int .i64 (T.k b3)),(AV.int .i64 (T.n b3)),(AV.str (T.s b3)),(AV.slice 4 (tcellL (T.l b3)) Cap.any)])])/\
 (((T.small a2)/\
 (SizeOf.sizeOf a2 < N))/\
 (bcase (!same a2 b3)
 (((sameL (T.l x) (T.l y)) = false)/\
 ((Rf (TV.v (AV.bool false)))/\
 ((0 = 0)/\
 True)))
 (∃ x'4:Nat,((((x'4 <= List.length (T.l x))/\
 ((sameL (T.l x) (T.l y)) = (sameL (List.drop x'4 (T.l x)) (List.drop x'4 (T.l y)))))/\
 (LI.μ (li33 x y) x'4 < LI.μ (li33 x y) i))/\
 ((Rf (TV.l 2 0))/\
 ((Rf (TV.l 3 0))/\
 (((TV.v (AV.int .i64 (IntKind.wrap .i64 ((↑i:Int) + 1)))) = (TV.v (AV.int .i64 ((↑x'4:Int)))))/\
 ((Rf [(AV.int .i64 (T.k x)),(AV.int .i64 (T.n x)),(AV.str (T.s x)),(AV.slice 4 (tcellL (T.l x)) Cap.any)])/\
 ((Rf [(AV.int .i64 (T.k y)),(AV.int .i64 (T.n y)),(AV.str (T.s y)),(AV.slice 4 (tcellL (T.l y)) Cap.any)])/\
 ((0 = 0)/\
 True)))))))))))))))))))
 (((sameL (T.l x) (T.l y)) = true)/\
 ((0 = 0)/\
 True)))):=by kernel_rfl
def L33 (x y:T):LHand:=fun _ Q a σ => x.l.length = y.l.length /\ atFS a σ ((li33 x y).F 0) ((li33 x y).FL 0) [] 0 /\
 ((sameL x.l y.l = true -> Q (.exit 0) (frm [] []) (lst [] 0)) /\ (sameL x.l y.l = false -> Q .ret (frm [(4,.v (.bool false))] []) (lst [] 0)))
theorem vc33 (B:Nat) (w0:World) (G:Nat -> AV) (N:Nat) (x y:T) (Q:AV -> State -> Prop):(bodyC (EV B w0 G) (H33 (EV B w0 G) N) (L33 x y) annA N33 33 [.agg (tc x),.agg (tc y)] noObj Q) =
 ((bcase (T.k x != T.k y)
 (Q (AV.bool false) (noObj))
 (bcase (T.n x != T.n y)
 (Q (AV.bool false) (noObj))
 (bcase (!bseq (T.s x) (T.s y))
 (Q (AV.bool false) (noObj))
 (bcase ((↑(List.length (tcellL (T.l x))):Int) != (↑(List.length (tcellL (T.l y))):Int))
 (Q (AV.bool false) (noObj))
 (((List.length (T.l x)) = (List.length (T.l y)))/\
 (((Rf (TV.l 2 0))/\
 ((Rf (TV.l 3 0))/\
 ((Rf (TV.v (AV.int .i64 0)))/\
 ((Rf [(AV.int .i64 (T.k x)),(AV.int .i64 (T.n x)),(AV.str (T.s x)),(AV.slice 4 (tcellL (T.l x)) Cap.any)])/\
 ((Rf [(AV.int .i64 (T.k y)),(AV.int .i64 (T.n y)),(AV.str (T.s y)),(AV.slice 4 (tcellL (T.l y)) Cap.any)])/\
 ((0 = 0)/\
 True))))))/\
 ((((sameL (T.l x) (T.l y)) = true) -> (Q (AV.bool true) (lst [] 0)))/\
 (((sameL (T.l x) (T.l y)) = false) -> (Q (AV.bool false) (lst [] 0))))))))))):=by kernel_rfl
end Go.V
/- Check, Same. -/
set_option linter.unusedSimpArgs false
set_option linter.unusedSectionVars false
namespace Go.V
open Go Go.Proofs

theorem T.small_len {t:T} (h:t.small):t.l.length <= 64:=by
 cases t; rw [T.small] at h; exact h.1
theorem smallL_mem:∀ {l:List T},smallL l -> ∀ x ∈ l,x.small
 | [],_,x,hx => by cases hx
 | y :: l,h,x,hx => by
  rw [smallL] at h
  rcases List.mem_cons.1 hx with rfl | hx
  ·exact h.1
  ·exact smallL_mem h.2 x hx
theorem T.small_mem {t x:T} (h:t.small) (hx:x ∈ t.l):x.small:=by
 cases t; rw [T.small] at h; exact smallL_mem h.2 x hx

theorem same_eq (x y:T):same x y = (x.k == y.k && (x.n == y.n && (bseq x.s y.s && (((x.l.length:Int) == (y.l.length:Int)) && sameL x.l y.l)))):=by
 cases x; rw [same]; rfl
theorem sameL_drop {l m:List T} {i:Nat} (h1:i < l.length) (h2:i < m.length):sameL (l.drop i) (m.drop i) = (same l[i] m[i] && sameL (l.drop (i + 1)) (m.drop (i + 1))):=by
 rw [List.drop_eq_getElem_cons h1,List.drop_eq_getElem_cons h2,sameL]

section
variable {B:Nat} {w0:World} {G:Nat -> AV}

theorem forms_runs (B:Nat) (w0:World) (G:Nat -> AV):callB (EV B w0 G) annA (fun _ => none) 300 200 (.fn 129) [] noObj (cameB formsV) = true:=by kernel_rfl

theorem loop33 {N:Nat} {x y:T} (hH:HOk1 (EV B w0 G) (H33 (EV B w0 G) N)) (hN:∀ z ∈ x.l,z.small /\ SizeOf.sizeOf z < N) (h64:x.l.length <= 64) (Q:Post) (a:AAct) (σ:State) (h:L33 x y (.loop (lbody Tryz.prog 33 0)) Q a σ) :
  AWp (EV B w0 G) none (fnTmps Tryz.prog 33) (.loop (lbody Tryz.prog 33 0)) Q a σ:=by
 obtain ⟨hxy,h1,h2,h3⟩:=h
 refine awp_loopE (li33 x y) (x0:=0) (fun i hI => body_wp (EV_mixed B w0 G) hH (by kernel_rfl) (by kernel_rfl) ((vc33l B w0 G N x y i).mpr ?_)) (fun z hI e a σ hne k => ?_) ⟨Nat.zero_le _,by simp⟩ h1
 ·obtain ⟨hi,hc⟩:=hI
  rw [tcellL_length,tcellL_length]
  refine bcase_of (fun hb => ?_) (fun hb => ?_)
  ·have hb:i < x.l.length:=by simpa using hb
   have hb':i < y.l.length:=by omega
   rw [sameL_drop hb hb'] at hc
   have hm:=hN _ (List.getElem_mem hb)
   refine ⟨⟨by omega,by omega⟩,x.l[i],by rw [Int.toNat_natCast]; exact tcellL_get hb,⟨by omega,by omega⟩,y.l[i],by rw [Int.toNat_natCast]; exact tcellL_get hb',x.l[i],y.l[i],rfl,hm,bcase_of (fun h4 => ?_) (fun h4 => ?_)⟩
   ·have h4:same x.l[i] y.l[i] = false:=by simpa using h4
    rw [h4] at hc
    exact ⟨hc,rfl,rfl,trivial⟩
   ·have h4:same x.l[i] y.l[i] = true:=by simpa using h4
    rw [h4,Bool.true_and] at hc
    exact ⟨i + 1,⟨⟨hb,hc⟩,show x.l.length - (i + 1) < x.l.length - i by omega⟩,rfl,rfl,by
     have:IntKind.wrap .i64 ((i:Int) + 1) = ((i + 1:Nat):Int):=by rw [wr_small (by omega) (by omega)]; omega
     rw [this],rfl,rfl,rfl,trivial⟩
  ·have hb:¬ i < x.l.length:=by simpa using hb
   have e:sameL (List.drop i x.l) (List.drop i y.l) = true:=by
    rw [List.drop_of_length_le (by omega)]
    rfl
   exact ⟨by rw [hc,e],rfl,trivial⟩
 ·cases e with
  | exit id =>
   cases id with
   | zero => exact exit_at (F:=[]) (FL:=[]) (L:=[]) (m:=0) k.2 (h2 k.1)
   | succ id => exact k.elim
  | ret => exact exit_at (F:=[(4,.v (.bool false))]) (FL:=[]) (L:=[]) (m:=0) k.2 (h3 k.1)
  | normal => exact absurd rfl hne
  | _ => exact k.elim

variable (hG:∀ i,NoId (G i))
include hG
theorem c129_ok:ContractOk (EV B w0 G) 129 C129:=by
 rintro args σ Q ⟨rfl,hQ⟩
 refine ACalls.pureD 60 hG (by simp) (callB_ok (EV_mixed B w0 G) (T:=fun _ => none) (fun f h e => by cases e) 200 (.fn 129) [] noObj _ (forms_runs B w0 G)) fun v σ' k => ?_
 unfold cameB at k
 split at k
 ·rename_i v' hv'
  have:=AV.same_ok _ _ k
  subst this
  exact ⟨_,_,hv',.refl _,formsV_noId hG,hQ⟩
 ·cases k

theorem c66_ok:ContractOk (EV B w0 G) 66 C66:=by
 rintro args σ Q ⟨t,rfl,hQ⟩
 refine pure_of hG (fun v hv => ?_) (.int _ _) (fun Q hQ => ?_) hQ
 ·simp only [List.mem_cons,List.not_mem_nil,or_false] at hv
  subst hv
  exact agg_tc_noId t
 refine bodyC_ok (EV_mixed B w0 G) (hnd_ok (EV_mixed B w0 G) (contracts_cons (c129_ok hG) (contracts_cons (c130_ok hG (SizeOf.sizeOf t + 1)) contracts_nil))) (fun l hl _ Q a σ k => k.elim) ((vc66 B w0 G (SizeOf.sizeOf t + 1) t Q).mpr ?_)
 refine ⟨rfl,t,4000,600,rfl,Nat.lt_succ_self _,bcase_of (fun h => ?_) (fun h => ?_)⟩
 ·have h:count t 4000 600 > 4000:=of_decide_eq_true h
  have:=hQ (State.untok (State.untok noObj))
  unfold chkT at this
  rw [if_pos h] at this; exact this
 ·have h:¬ count t 4000 600 > 4000:=of_decide_eq_false h
  have:=hQ (State.untok (State.untok noObj))
  unfold chkT at this
  rw [if_neg h] at this; exact this

theorem c33_ok:∀ N,ContractOk (EV B w0 G) 33 (C33 N)
 | 0 => by
  rintro args σ Q ⟨x,y,rfl,hN,hQ⟩
  omega
 | N + 1 => by
  rintro args σ Q ⟨x,y,rfl,⟨hs,hN⟩,hQ⟩
  have hH:HOk1 (EV B w0 G) (H33 (EV B w0 G) N):=hnd_ok (EV_mixed B w0 G) (contracts_cons (c33_ok N) contracts_nil)
  refine pure_of hG (fun v hv => ?_) (.bool _) (fun Q hQ => ?_) hQ
  ·simp only [List.mem_cons,List.not_mem_nil,or_false] at hv
   rcases hv with rfl | rfl
   ·exact agg_tc_noId x
   ·exact agg_tc_noId y
  refine bodyC_ok (EV_mixed B w0 G) hH (fun l hl _ Q a σ k => ?_) ((vc33 B w0 G N x y Q).mpr ?_)
  ·change l ∈ fnLoops Tryz.prog 33 at hl
   rw [fnLoops_33] at hl
   simp only [List.mem_cons,List.not_mem_nil,or_false] at hl
   subst hl
   exact loop33 hH (fun z hz => ⟨T.small_mem hs hz,by have:=T.sizeOf_mem hz; omega⟩) (T.small_len hs) Q a σ k
  ·rw [tcellL_length,tcellL_length]
   rw [same_eq] at hQ
   refine bcase_of (fun h1 => ?_) (fun h1 => bcase_of (fun h2 => ?_) (fun h2 => bcase_of (fun h3 => ?_) (fun h3 => bcase_of (fun h4 => ?_) (fun h4 => ⟨Int.ofNat_inj.1 (by simpa [bne] using h4),⟨rfl,rfl,rfl,rfl,rfl,rfl,trivial⟩,fun h5 => ?_,fun h5 => ?_⟩))))
   ·have e:(x.k == y.k) = false:=by simpa [bne] using h1
    rw [e] at hQ; exact hQ _
   ·have e1:(x.k == y.k) = true:=by simpa [bne] using h1
    have e:(x.n == y.n) = false:=by simpa [bne] using h2
    rw [e1,e] at hQ; exact hQ _
   ·have e1:(x.k == y.k) = true:=by simpa [bne] using h1
    have e2:(x.n == y.n) = true:=by simpa [bne] using h2
    have e:bseq x.s y.s = false:=by simpa using h3
    rw [e1,e2,e] at hQ; exact hQ _
   ·have e1:(x.k == y.k) = true:=by simpa [bne] using h1
    have e2:(x.n == y.n) = true:=by simpa [bne] using h2
    have e3:bseq x.s y.s = true:=by simpa using h3
    have e:((x.l.length:Int) == (y.l.length:Int)) = false:=by simpa [bne] using h4
    rw [e1,e2,e3,e] at hQ; exact hQ _
   ·have e1:(x.k == y.k) = true:=by simpa [bne] using h1
    have e2:(x.n == y.n) = true:=by simpa [bne] using h2
    have e3:bseq x.s y.s = true:=by simpa using h3
    have e:((x.l.length:Int) == (y.l.length:Int)) = true:=by simpa [bne] using h4
    rw [e1,e2,e3,e,h5] at hQ; exact hQ _
   ·have e1:(x.k == y.k) = true:=by simpa [bne] using h1
    have e2:(x.n == y.n) = true:=by simpa [bne] using h2
    have e3:bseq x.s y.s = true:=by simpa using h3
    have e:((x.l.length:Int) == (y.l.length:Int)) = true:=by simpa [bne] using h4
    rw [e1,e2,e3,e,h5] at hQ; exact hQ _
end
end Go.V
/- Conditions: copies of terms. -/
namespace Go.V
open Go Go.Proofs

def C68 (N:Nat):Contract:=fun args σ K => ∃ (t:T),args = [.agg (tc t)] /\ (t.small /\ SizeOf.sizeOf t < N) /\ K (.agg (tc t)) σ.untok
def N68:FnHint:=fun id i => match Nat.beq id 4 && Nat.beq i 2 with
 | true => Hint.as (fun t:T => .agg (tc t))
 | false => symAt [(4,1),(5,5),(5,6)] id i
def NN68 (f:Nat):FnHint:=match Nat.beq f 107 with
 | true => symAt [(3,2)]
 | false => noHint
def H68 (E:Env) (N:Nat):Hand:=hnd E annA NN68 [(68,C68 N)]
def row68 (t:T):AObj:=.cells (flat (tcellL t.l)) 37 4 true
def own68 (t:T):List AV:=[.int .i64 t.k,.int .i64 t.n,.str t.s,.rslice 0 0 (tcellL t.l).length]
def none68:List AV:=[.int .i64 0,.int .i64 0,.str ⟨⟨[]⟩⟩,.nilslice]
def li68 (t:T):LI Nat where
 F i:=[(1,.l 1 0),(2,.l 2 0),(10,.v (.rslice 0 0 (tcellL t.l).length)),(11,.v (.int .i64 (tcellL t.l).length)),(12,.v (.int .i64 i))]
 FL _:=[(1,own68 t),(2,none68)]
 L _:=[row68 t]
 m _:=1
 I i:=i <= t.l.length
 μ i:=t.l.length - i
 Ex _ e a σ:=match e with
  | .exit 0 => atFS a σ [(1,.l 1 0),(2,.l 2 0)] [(1,own68 t),(2,none68)] [row68 t] 1
  | _ => False
theorem fnLoops_68:fnLoops Tryz.prog 68 = [.loop (lbody Tryz.prog 68 0)]:=by kernel_rfl
theorem vc68l (B:Nat) (w0:World) (G:Nat -> AV) (N:Nat) (t:T) (i:Nat):(wpC (EV B w0 G) (H68 (EV B w0 G) N) (fun _ _ _ _ => False) (annA 68) N68 (lbody Tryz.prog 68 0) ((li68 t).post i) (frm ((li68 t).F i) ((li68 t).FL i)) (lst ((li68 t).L i) ((li68 t).m i))) =
 ((bcase (decide ((↑i:Int) < (↑(List.length (tcellL (T.l t))):Int)))
 (((0 <= (↑i:Int))/\
 ((↑i:Int) < (↑(List.length (tcellL (T.l t))):Int)))/\
 (((0 + Int.toNat (↑i:Int)) * 4 + 4 <= List.length (flat (tcellL (T.l t))))/\
 (∃ x0:T,(((AV.agg (List.take 4 (List.drop ((0 + Int.toNat (↑i:Int)) * 4) (flat (tcellL (T.l t)))))) = (AV.agg [(AV.int .i64 (T.k x0)),(AV.int .i64 (T.n x0)),(AV.str (T.s x0)),(AV.slice 4 (tcellL (T.l x0)) Cap.any)]))/\
 (∃ t1:T,(([(AV.agg [(AV.int .i64 (T.k x0)),(AV.int .i64 (T.n x0)),(AV.str (T.s x0)),(AV.slice 4 (tcellL (T.l x0)) Cap.any)])] = [(AV.agg [(AV.int .i64 (T.k t1)),(AV.int .i64 (T.n t1)),(AV.str (T.s t1)),(AV.slice 4 (tcellL (T.l t1)) Cap.any)])])/\
 (((T.small t1)/\
 (SizeOf.sizeOf t1 < N))/\
 (((0 <= (↑i:Int))/\
 ((↑i:Int) < (↑(List.length (tcellL (T.l t))):Int)))/\
 ((Rf (TV.l 1 3))/\
 ((Rf (TV.v (AV.rslice 0 0 (List.length (tcellL (T.l t))))))/\
 ((Rf (TV.v (AV.int .i64 ((↑i:Int)))))/\
 (((0 + Int.toNat (↑i:Int)) * 4 + 4 <= List.length (flat (tcellL (T.l t))))/\
 (∃ x'2:Nat,(((LI.I (li68 t) x'2)/\
 (LI.μ (li68 t) x'2 < LI.μ (li68 t) i))/\
 ((Rf (TV.l 1 0))/\
 ((Rf (TV.l 2 0))/\
 ((Rf (TV.v (AV.rslice 0 0 (List.length (tcellL (T.l t))))))/\
 ((Rf (TV.v (AV.int .i64 ((↑(List.length (tcellL (T.l t))):Int)))))/\
 (((TV.v (AV.int .i64 (IntKind.wrap .i64 ((↑i:Int) + 1)))) = (TV.v (AV.int .i64 ((↑x'2:Int)))))/\
 ((Rf [(AV.int .i64 (T.k t)),(AV.int .i64 (T.n t)),(AV.str (T.s t)),(AV.rslice 0 0 (List.length (tcellL (T.l t))))])/\
 ((Rf [(AV.int .i64 0),(AV.int .i64 0),(AV.str ⟨⟨[]⟩⟩),AV.nilslice])/\
 ((1 = 1)/\
 (((AObj.cells (asplice (flat (tcellL (T.l t))) ((0 + Int.toNat (↑i:Int)) * 4) [(AV.int .i64 (T.k t1)),(AV.int .i64 (T.n t1)),(AV.str (T.s t1)),(AV.slice 4 (tcellL (T.l t1)) Cap.any)]) 37 4 true) = (AObj.cells (flat (tcellL (T.l t))) 37 4 true))/\
 True)))))))))))))))))))))))
 ((Rf (TV.l 1 0))/\
 ((Rf (TV.l 2 0))/\
 ((Rf [(AV.int .i64 (T.k t)),(AV.int .i64 (T.n t)),(AV.str (T.s t)),(AV.rslice 0 0 (List.length (tcellL (T.l t))))])/\
 ((Rf [(AV.int .i64 0),(AV.int .i64 0),(AV.str ⟨⟨[]⟩⟩),AV.nilslice])/\
 ((1 = 1)/\
 ((Rf (AObj.cells (flat (tcellL (T.l t))) 37 4 true))/\
 True)))))))):=by kernel_rfl
def L68 (t:T):LHand:=fun _ Q a σ => atFS a σ ((li68 t).F 0) ((li68 t).FL 0) [row68 t] 1 /\
 Q (.exit 0) (frm [(1,.l 1 0),(2,.l 2 0)] [(1,own68 t),(2,none68)]) (lst [row68 t] 1)
theorem vc68 (B:Nat) (w0:World) (G:Nat -> AV) (N:Nat) (t:T) (Q:AV -> State -> Prop):(bodyC (EV B w0 G) (H68 (EV B w0 G) N) (L68 t) annA N68 68 [.agg [.int .i64 t.k,.int .i64 t.n,.str t.s,.slice 4 (tcellL t.l) .nn]] noObj Q) =
 ((bcase (List.isEmpty (tcellL (T.l t)))
 (((Rf (TV.l 1 0))/\
 ((Rf (TV.l 2 0))/\
 (((TV.v (AV.slice 4 [] Cap.full)) = (TV.v (AV.rslice 0 0 (List.length (tcellL (T.l t))))))/\
 (((TV.v (AV.int .i64 0)) = (TV.v (AV.int .i64 ((↑(List.length (tcellL (T.l t))):Int)))))/\
 ((Rf (TV.v (AV.int .i64 0)))/\
 (([(AV.int .i64 (T.k t)),(AV.int .i64 (T.n t)),(AV.str (T.s t)),(AV.slice 4 [] Cap.full)] = [(AV.int .i64 (T.k t)),(AV.int .i64 (T.n t)),(AV.str (T.s t)),(AV.rslice 0 0 (List.length (tcellL (T.l t))))])/\
 ((Rf [(AV.int .i64 0),(AV.int .i64 0),(AV.str ⟨⟨[]⟩⟩),AV.nilslice])/\
 ((0 = 1)/\
 ((AObj.dead = (AObj.cells (flat (tcellL (T.l t))) 37 4 true))/\
 True)))))))))/\
 (Q (AV.agg [(AV.int .i64 (T.k t)),(AV.int .i64 (T.n t)),(AV.str (T.s t)),(AV.rslice 0 0 (List.length (tcellL (T.l t))))]) (lst [row68 t] 1)))
 ((((0 + List.length (tcellL (T.l t))) * 56 <= 140737488355328)/\
 (0 + List.length (tcellL (T.l t)) <= 4611686018427387904))/\
 (((Rf (TV.l 1 0))/\
 ((Rf (TV.l 2 0))/\
 (((TV.v (AV.rslice 0 0 (List.length ([] ++ tcellL (T.l t))))) = (TV.v (AV.rslice 0 0 (List.length (tcellL (T.l t))))))/\
 (((TV.v (AV.int .i64 ((↑(List.length ([] ++ tcellL (T.l t))):Int)))) = (TV.v (AV.int .i64 ((↑(List.length (tcellL (T.l t))):Int)))))/\
 ((Rf (TV.v (AV.int .i64 0)))/\
 (([(AV.int .i64 (T.k t)),(AV.int .i64 (T.n t)),(AV.str (T.s t)),(AV.rslice 0 0 (List.length ([] ++ tcellL (T.l t))))] = [(AV.int .i64 (T.k t)),(AV.int .i64 (T.n t)),(AV.str (T.s t)),(AV.rslice 0 0 (List.length (tcellL (T.l t))))])/\
 ((Rf [(AV.int .i64 0),(AV.int .i64 0),(AV.str ⟨⟨[]⟩⟩),AV.nilslice])/\
 ((1 = 1)/\
 (((AObj.cells (flat ([] ++ (tcellL (T.l t)))) 37 4 true) = (AObj.cells (flat (tcellL (T.l t))) 37 4 true))/\
 True)))))))))/\
 (Q (AV.agg [(AV.int .i64 (T.k t)),(AV.int .i64 (T.n t)),(AV.str (T.s t)),(AV.rslice 0 0 (List.length (tcellL (T.l t))))]) (lst [row68 t] 1)))))):=by kernel_rfl
theorem vc68nil (B:Nat) (w0:World) (G:Nat -> AV) (N:Nat) (t:T) (Q:AV -> State -> Prop):(bodyC (EV B w0 G) (H68 (EV B w0 G) N) (loopC (EV B w0 G) (H68 (EV B w0 G) N) 68 none (fnTmps Tryz.prog 68) (annA 68) noHint 5) annA noHint 68 [.agg [.int .i64 t.k,.int .i64 t.n,.str t.s,.nilslice]] noObj Q) =
 ((Q (AV.agg [(AV.int .i64 (T.k t)),(AV.int .i64 (T.n t)),(AV.str (T.s t)),AV.nilslice]) (noObj))):=by kernel_rfl
theorem vc68emp (B:Nat) (w0:World) (G:Nat -> AV) (N:Nat) (t:T) (Q:AV -> State -> Prop):(bodyC (EV B w0 G) (H68 (EV B w0 G) N) (loopC (EV B w0 G) (H68 (EV B w0 G) N) 68 none (fnTmps Tryz.prog 68) (annA 68) noHint 5) annA noHint 68 [.agg [.int .i64 t.k,.int .i64 t.n,.str t.s,.slice 4 [] .nn]] noObj Q) =
 ((Q (AV.agg [(AV.int .i64 (T.k t)),(AV.int .i64 (T.n t)),(AV.str (T.s t)),(AV.slice 4 [] Cap.full)]) (noObj))):=by kernel_rfl
end Go.V
/- Copies of terms. -/
namespace Go.V
open Go Go.Proofs

theorem tcellL_sz (l:List T):∀ x ∈ tcellL l,x.cells.length = 4:=by
 intro x hx
 rw [tcellL_eq,List.mem_map] at hx
 obtain ⟨t,_,rfl⟩:=hx
 rw [tcell_eq]; rfl
theorem flat_tcellL_length (l:List T):(flat (tcellL l)).length = l.length * 4:=by
 rw [flat_length (tcellL_sz l),tcellL_length]
theorem tc_at {l:List T} {i:Nat} (h:i < l.length):((flat (tcellL l)).drop (i * 4)).take 4 = tc l[i]:=by
 have hx:(tcellL l)[i]? = some (tcell l[i]):=by rw [tcellL_eq,List.getElem?_map,List.getElem?_eq_getElem h]; rfl
 rw [<-flat_get (tcellL_sz l) hx,tcell_eq]; rfl
theorem asplice_same {cs vs:List AV} {off:Nat} (h:(cs.drop off).take vs.length = vs):asplice cs off vs = cs:=by
 unfold asplice
 have:vs ++ cs.drop (off + vs.length) = cs.drop off:=by
  have e:=List.take_append_drop vs.length (cs.drop off)
  rw [h,List.drop_drop] at e
  exact e
 rw [List.append_assoc,this,List.take_append_drop]

mutual
theorem deep_tcell (P:Program) (σ:State):∀ (t:T) (n:Nat),2 * SizeOf.sizeOf t < n -> deep P σ n (tcell t) = some (tcell t)
 | .mk k m s l,0,h => by omega
 | .mk k m s l,1,h => by simp at h; omega
 | .mk k m s l,n + 2,h => by
  have hl:(tcellL l).mapM (deep P σ n) = some (tcellL l):=deep_tcellL P σ l n (by simp at h; omega)
  rw [tcell]
  simp only [deep,List.mapM_cons,List.mapM_nil,Option.pure_def,Option.bind_eq_bind,Option.bind_some,hl,Option.map_some,nnCap]
theorem deep_tcellL (P:Program) (σ:State):∀ (l:List T) (n:Nat),2 * SizeOf.sizeOf l < n -> (tcellL l).mapM (deep P σ n) = some (tcellL l)
 | [],n,h => by simp [tcellL]
 | t :: l,n,h => by
  rw [tcellL,List.mapM_cons,deep_tcell P σ t n (by simp at h; omega),deep_tcellL P σ l n (by simp at h; omega)]
  rfl
end

theorem ACalls.last_nil {E:Env} {f sz:Nat} {a b c:AV} {xs:List AV} {σ:State} {Q:AV -> State -> Prop} (h1:xs = [] -> ACalls E f [.agg [a,b,c,.nilslice]] σ Q) (h2:ACalls E f [.agg [a,b,c,.slice sz xs .nn]] σ Q) :
  ACalls E f [.agg [a,b,c,.slice sz xs .any]] σ Q:=by
 refine ⟨fun g w vs hG hS hv => ?_⟩
 obtain ⟨v,vs',hvs,hv1,hv2⟩:=hv.cons_inv
 obtain ⟨us,rfl,hu⟩:=hv1.agg_inv
 obtain ⟨u1,us1,e1,k1,hu⟩:=hu.cons_inv
 obtain ⟨u2,us2,e2,k2,hu⟩:=hu.cons_inv
 obtain ⟨u3,us3,e3,k3,hu⟩:=hu.cons_inv
 obtain ⟨u4,us4,e4,k4,hu⟩:=hu.cons_inv
 have put:∀ x,RV g x u4 -> RVL g [.agg [a,b,c,x]] vs.toList:=by
  intro x hx
  rw [hvs]
  refine .cons (.agg' ?_) hv2
  rw [e1,e2,e3,e4]
  exact .cons k1 (.cons k2 (.cons k3 (.cons hx hu)))
 rcases k4.nil_or with ⟨e,h⟩ | h
 ·exact (h1 e).run g w vs hG hS (put _ h)
 ·exact h2.run g w vs hG hS (put _ h)

theorem tc_eq (t:T):tc t = [.int .i64 t.k,.int .i64 t.n,.str t.s,.slice 4 (tcellL t.l) .any]:=rfl
section
variable {B:Nat} {w0:World} {G:Nat -> AV}
theorem loop68 {N:Nat} {t:T} (hH:HOk1 (EV B w0 G) (H68 (EV B w0 G) N)) (hN:∀ z ∈ t.l,z.small /\ SizeOf.sizeOf z < N) (h64:t.l.length <= 64) (Q:Post) (a:AAct) (σ:State) (h:L68 t (.loop (lbody Tryz.prog 68 0)) Q a σ) :
  AWp (EV B w0 G) none (fnTmps Tryz.prog 68) (.loop (lbody Tryz.prog 68 0)) Q a σ:=by
 refine awp_loopE (li68 t) (x0:=0) (fun i hI => body_wp (EV_mixed B w0 G) hH (by kernel_rfl) (by kernel_rfl) ((vc68l B w0 G N t i).mpr ?_)) (fun z hI e a σ hne k => ?_) (Nat.zero_le _) h.1
 ·rw [tcellL_length]
  refine bcase_of (fun hb => ?_) (fun hb => ⟨rfl,rfl,rfl,rfl,rfl,rfl,trivial⟩)
  have hb:i < t.l.length:=by simpa using hb
  have hm:=hN _ (List.getElem_mem hb)
  have hfl:=flat_tcellL_length t.l
  have e0:(0 + Int.toNat (i:Int)) * 4 = i * 4:=by simp
  rw [e0,hfl]
  refine ⟨⟨by omega,by omega⟩,by omega,t.l[i],by rw [tc_at hb]; rfl,t.l[i],rfl,hm,⟨by omega,by omega⟩,rfl,rfl,rfl,by omega,i + 1,⟨hb,show t.l.length - (i + 1) < t.l.length - i by omega⟩,rfl,rfl,rfl,rfl,by
     have:IntKind.wrap .i64 ((i:Int) + 1) = ((i + 1:Nat):Int):=by rw [wr_small (by omega) (by omega)]; omega
     rw [this],rfl,rfl,rfl,?_,trivial⟩
  have:=asplice_same (cs:=flat (tcellL t.l)) (vs:=tc t.l[i]) (off:=i * 4) (tc_at hb)
  rw [tc_eq] at this
  rw [this]
 ·cases e with
  | exit id =>
   cases id with
   | zero => exact exit_at (F:=[(1,.l 1 0),(2,.l 2 0)]) (FL:=[(1,own68 t),(2,none68)]) (L:=[row68 t]) (m:=1) k h.2
   | succ id => exact k.elim
  | normal => exact absurd rfl hne
  | _ => exact k.elim

variable (hG:∀ i,NoId (G i))
include hG
theorem c68_ok:∀ N,ContractOk (EV B w0 G) 68 (C68 N)
 | 0 => by
  rintro args σ Q ⟨x,rfl,hN,hQ⟩
  omega
 | N + 1 => by
  rintro args σ Q ⟨t,rfl,⟨hs,hN⟩,hQ⟩
  have hH:HOk1 (EV B w0 G) (H68 (EV B w0 G) N):=hnd_ok (EV_mixed B w0 G) (contracts_cons (c68_ok N) contracts_nil)
  have key:ACalls (EV B w0 G) 68 [.agg (tc t)] noObj (fun v σ' => ∃ v',deep Tryz.prog σ' (2 * SizeOf.sizeOf t + 2) v = some v' /\ Wk v' (.agg (tc t))):=by
   rw [tc_eq]
   have hd3:∀ x n,(x = AV.int .i64 t.k \/ x = AV.int .i64 t.n \/ x = AV.str t.s) -> ∀ σ',deep Tryz.prog σ' (n + 1) x = some x:=by
    rintro x n (rfl | rfl | rfl) σ' <;> rfl
   refine ACalls.last_nil (fun he => ?_) ?_
   ·refine bodyC_ok (EV_mixed B w0 G) hH (fun l _ hc Q a σ k => loopC_ok hH (EV_mixed B w0 G) 68 5 l hc Q a σ k) ((vc68nil B w0 G N t _).mpr ⟨_,rfl,?_⟩)
    rw [he]
    exact Wk.agg (.cons (.refl _) (.cons (.refl _) (.cons (.refl _) (.cons (Wk.nil 4) .nil))))
   ·cases he:tcellL t.l with
    | nil =>
     refine bodyC_ok (EV_mixed B w0 G) hH (fun l _ hc Q a σ k => loopC_ok hH (EV_mixed B w0 G) 68 5 l hc Q a σ k) ((vc68emp B w0 G N t _).mpr ⟨_,rfl,?_⟩)
     exact Wk.agg (.cons (.refl _) (.cons (.refl _) (.cons (.refl _) (.cons (Wk.slice 4 [] .full) .nil))))
    | cons y ys =>
     rw [<-he]
     refine bodyC_ok (EV_mixed B w0 G) hH (fun l hl _ Q a σ k => ?_) ((vc68 B w0 G N t _).mpr (bcase_of (fun h => by rw [he] at h; cases h) (fun _ => ⟨?_,⟨rfl,rfl,rfl,rfl,rfl,rfl,rfl,rfl,rfl,trivial⟩,?_⟩)))
     ·change l ∈ fnLoops Tryz.prog 68 at hl
      rw [fnLoops_68] at hl
      simp only [List.mem_cons,List.not_mem_nil,or_false] at hl
      subst hl
      exact loop68 hH (fun z hz => ⟨T.small_mem hs hz,by have:=T.sizeOf_mem hz; omega⟩) (T.small_len hs) Q a σ k
     ·rw [tcellL_length]
      have:=T.small_len hs
      exact ⟨by omega,by omega⟩
     ·refine ⟨.agg [.int .i64 t.k,.int .i64 t.n,.str t.s,.slice 4 (tcellL t.l) .nn],?_,Wk.agg (.cons (.refl _) (.cons (.refl _) (.cons (.refl _) (.cons (Wk.slice 4 _ .nn) .nil))))⟩
      have hsz:=T.sizeOf_l t
      have hm:(tcellL t.l).mapM (deep Tryz.prog (lst [row68 t] 1) (2 * SizeOf.sizeOf t)) = some (tcellL t.l):=deep_tcellL _ _ _ _ (by omega)
      have hrow:(lst [row68 t] 1).objs 0 = .cells (flat (tcellL t.l)) 37 4 true:=rfl
      have hk:kindT Tryz.prog 37 = some (some 4):=by kernel_rfl
      have hch:chunk (some 4) (((flat (tcellL t.l)).drop (0 * 4)).take ((tcellL t.l).length * 4)) (tcellL t.l).length = tcellL t.l:=by
       rw [Nat.zero_mul,List.drop_zero,List.take_of_length_le (by rw [flat_tcellL_length,tcellL_length]; omega)]
       have:∀ l:List T,chunk (some 4) (flat (tcellL l)) (tcellL l).length = tcellL l:=by
        intro l
        induction l with
        | nil => rfl
        | cons x l ih =>
         rw [tcellL,flat_cons,List.length_cons,tcell_eq]
         show AV.agg (((tc x) ++ flat (tcellL l)).take 4) :: chunk (some 4) (((tc x) ++ flat (tcellL l)).drop 4) _ = _
         rw [List.take_left' (by rfl),List.drop_left' (by rfl),ih]
       exact this t.l
      have hle:Nat.ble ((0 + (tcellL t.l).length) * 4) (flat (tcellL t.l)).length = true:=by
       rw [Nat.ble_eq,flat_tcellL_length,tcellL_length]; omega
      have hds:deep Tryz.prog (lst [row68 t] 1) (2 * SizeOf.sizeOf t + 1) (.rslice 0 0 (tcellL t.l).length) = some (.slice 4 (tcellL t.l) .nn):=by
       simp only [deep,hrow,hk,Option.getD_some,hle,hch,hm,Option.map_some]
       rfl
      have:deep Tryz.prog (lst [row68 t] 1) (2 * SizeOf.sizeOf t + 2) (.agg [.int .i64 t.k,.int .i64 t.n,.str t.s,.rslice 0 0 (tcellL t.l).length]) =
        (([.int .i64 t.k,.int .i64 t.n,.str t.s,.rslice 0 0 (tcellL t.l).length]:List AV).mapM (deep Tryz.prog (lst [row68 t] 1) (2 * SizeOf.sizeOf t + 1))).map .agg:=rfl
      rw [this]
      simp only [List.mapM_cons,List.mapM_nil,hds,hd3 _ _ (.inl rfl),hd3 _ _ (.inr (.inl rfl)),hd3 _ _ (.inr (.inr rfl)),Option.bind_eq_bind,Option.bind_some,Option.pure_def,Option.map_some]
  refine ACalls.pureD (2 * SizeOf.sizeOf t + 2) hG (fun v hv => ?_) key fun v σ' ⟨v',h1,h2⟩ => ⟨v',_,h1,h2,agg_tc_noId t,hQ⟩
  simp only [List.mem_cons,List.not_mem_nil,or_false] at hv
  subst hv
  exact agg_tc_noId t
end
end Go.V
