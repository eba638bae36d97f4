import Derived.Test.YtgnjidopnplbbaaGreatDoorG13
/- Conditions: Check, Same. -/
set_option maxRecDepth 1000000
set_option linter.unusedVariables false
namespace Go.V
open Go Go.Proofs

def chkT (t:T):Int:=if count t 4000 600 > 4000 then 3 else 0
def C129:Contract:=fun args σ K => args = [] /\ K formsV σ.untok
mutual
def T.small:T -> Prop
 | .mk _ _ _ l => l.length <= 64 /\ smallL l
def smallL:List T -> Prop
 | [] => True
 | x :: l => x.small /\ smallL l
end

mutual
def same:T -> T -> Bool
 | .mk k n s l,u => k == u.k && (n == u.n && (bseq s u.s && (((l.length:Int) == (u.l.length:Int)) && sameL l u.l)))
def sameL:List T -> List T -> Bool
 | x :: l,y :: m => same x y && sameL l m
 | _,_ => true
end

def C33 (N:Nat):Contract:=fun args σ K => ∃ (a b:T),args = [.agg (tc a),.agg (tc b)] /\ (a.small /\ SizeOf.sizeOf a < N) /\ K (.bool (same a b)) σ.untok
def H33 (E:Env) (N:Nat):Hand:=hnd E annA noHints [(33,C33 N)]
def N33:FnHint:=fun id i => match Nat.beq id 6 && (Nat.beq i 3 || Nat.beq i 8) with
 | true => Hint.as (fun t:T => .vptr (tc t))
 | false => Hint.no
def li33 (x y:T):LI Nat where
 F i:=[(2,.l 2 0),(3,.l 3 0),(5,.v (.int .i64 i))]
 FL _:=[(2,tc x),(3,tc y)]
 L _:=[]
 m _:=0
 I i:=i <= x.l.length /\ sameL x.l y.l = sameL (x.l.drop i) (y.l.drop i)
 μ i:=x.l.length - i
 Ex _ e a σ:=match e with
  | .exit 0 => sameL x.l y.l = true /\ atFS a σ [] [] [] 0
  | .ret => sameL x.l y.l = false /\ atFS a σ [(4,.v (.bool false))] [] [] 0
  | _ => False
theorem fnLoops_33:fnLoops Tryz.prog 33 = [.loop (lbody Tryz.prog 33 0)]:=by kernel_rfl
theorem vc33l (B:Nat) (w0:World) (G:Nat -> AV) (N:Nat) (x y:T) (i:Nat):(wpC (EV B w0 G) (H33 (EV B w0 G) N) (fun _ _ _ _ => False) (annA 33) N33 (lbody Tryz.prog 33 0) ((li33 x y).post i) (frm ((li33 x y).F i) ((li33 x y).FL i)) (lst ((li33 x y).L i) ((li33 x y).m i))) =
 ((bcase (decide ((↑i:Int) < (↑(List.length (tcellL (T.l x))):Int)))
 (((0 <= (↑i:Int))/\
 ((↑i:Int) < (↑(List.length (tcellL (T.l x))):Int)))/\
 (∃ x0:T,(((AV.vptr (AV.cells (List.getD (tcellL (T.l x)) (Int.toNat (↑i:Int)) AV.undef))) = (AV.vptr [(AV.int .i64 (T.k x0)),(AV.int .i64 (T.n x0)),(AV.str (T.s x0)),(AV.slice 4 (tcellL (T.l x0)) Cap.any)]))/\
 (((0 <= (↑i:Int))/\
 ((↑i:Int) < (↑(List.length (tcellL (T.l y))):Int)))/\
 (∃ x1:T,(((AV.vptr (AV.cells (List.getD (tcellL (T.l y)) (Int.toNat (↑i:Int)) AV.undef))) = (AV.vptr [(AV.int .i64 (T.k x1)),(AV.int .i64 (T.n x1)),(AV.str (T.s x1)),(AV.slice 4 (tcellL (T.l x1)) Cap.any)]))/\
 (∃ a2:T,(∃ b3:T,(([(AV.agg [(AV.int .i64 (T.k x0)),(AV.int .i64 (T.n x0)),(AV.str (T.s x0)),(AV.slice 4 (tcellL (T.l x0)) Cap.any)]),(AV.agg [(AV.int .i64 (T.k x1)),(AV.int .i64 (T.n x1)),(AV.str (T.s x1)),(AV.slice 4 (tcellL (T.l x1)) Cap.any)])] = [(AV.agg [(AV.int .i64 (T.k a2)),(AV.int .i64 (T.n a2)),(AV.str (T.s a2)),(AV.slice 4 (tcellL (T.l a2)) Cap.any)]),(AV.agg [(AV.int .i64 (T.k b3)),(AV.int .i64 (T.n b3)),(AV.str (T.s b3)),(AV.slice 4 (tcellL (T.l b3)) Cap.any)])])/\
 (((T.small a2)/\
 (SizeOf.sizeOf a2 < N))/\
 (bcase (!same a2 b3)
 (((sameL (T.l x) (T.l y)) = false)/\
 ((Rf (TV.v (AV.bool false)))/\
 ((0 = 0)/\
 True)))
 (∃ x'4:Nat,((((x'4 <= List.length (T.l x))/\
 ((sameL (T.l x) (T.l y)) = (sameL (List.drop x'4 (T.l x)) (List.drop x'4 (T.l y)))))/\
 (LI.μ (li33 x y) x'4 < LI.μ (li33 x y) i))/\
 ((Rf (TV.l 2 0))/\
 ((Rf (TV.l 3 0))/\
 (((TV.v (AV.int .i64 (IntKind.wrap .i64 ((↑i:Int) + 1)))) = (TV.v (AV.int .i64 ((↑x'4:Int)))))/\
 ((Rf [(AV.int .i64 (T.k x)),(AV.int .i64 (T.n x)),(AV.str (T.s x)),(AV.slice 4 (tcellL (T.l x)) Cap.any)])/\
 ((Rf [(AV.int .i64 (T.k y)),(AV.int .i64 (T.n y)),(AV.str (T.s y)),(AV.slice 4 (tcellL (T.l y)) Cap.any)])/\
 ((0 = 0)/\
 True)))))))))))))))))))
 (((sameL (T.l x) (T.l y)) = true)/\
 ((0 = 0)/\
 True)))):=by kernel_rfl
def L33 (x y:T):LHand:=fun _ Q a σ => x.l.length = y.l.length /\ atFS a σ ((li33 x y).F 0) ((li33 x y).FL 0) [] 0 /\
 ((sameL x.l y.l = true -> Q (.exit 0) (frm [] []) (lst [] 0)) /\ (sameL x.l y.l = false -> Q .ret (frm [(4,.v (.bool false))] []) (lst [] 0)))
theorem vc33 (B:Nat) (w0:World) (G:Nat -> AV) (N:Nat) (x y:T) (Q:AV -> State -> Prop):(bodyC (EV B w0 G) (H33 (EV B w0 G) N) (L33 x y) annA N33 33 [.agg (tc x),.agg (tc y)] noObj Q) =
 ((bcase (T.k x != T.k y)
 (Q (AV.bool false) (noObj))
 (bcase (T.n x != T.n y)
 (Q (AV.bool false) (noObj))
 (bcase (!bseq (T.s x) (T.s y))
 (Q (AV.bool false) (noObj))
 (bcase ((↑(List.length (tcellL (T.l x))):Int) != (↑(List.length (tcellL (T.l y))):Int))
 (Q (AV.bool false) (noObj))
 (((List.length (T.l x)) = (List.length (T.l y)))/\
 (((Rf (TV.l 2 0))/\
 ((Rf (TV.l 3 0))/\
 ((Rf (TV.v (AV.int .i64 0)))/\
 ((Rf [(AV.int .i64 (T.k x)),(AV.int .i64 (T.n x)),(AV.str (T.s x)),(AV.slice 4 (tcellL (T.l x)) Cap.any)])/\
 ((Rf [(AV.int .i64 (T.k y)),(AV.int .i64 (T.n y)),(AV.str (T.s y)),(AV.slice 4 (tcellL (T.l y)) Cap.any)])/\
 ((0 = 0)/\
 True))))))/\
 ((((sameL (T.l x) (T.l y)) = true) -> (Q (AV.bool true) (lst [] 0)))/\
 (((sameL (T.l x) (T.l y)) = false) -> (Q (AV.bool false) (lst [] 0))))))))))):=by kernel_rfl
end Go.V
/- Check, Same. -/
set_option linter.unusedSimpArgs false
set_option linter.unusedSectionVars false
namespace Go.V
open Go Go.Proofs

theorem T.small_len {t:T} (h:t.small):t.l.length <= 64:=by
 cases t; rw [T.small] at h; exact h.1
theorem smallL_mem:∀ {l:List T},smallL l -> ∀ x ∈ l,x.small
 | [],_,x,hx => by cases hx
 | y :: l,h,x,hx => by
  rw [smallL] at h
  rcases List.mem_cons.1 hx with rfl | hx
  ·exact h.1
  ·exact smallL_mem h.2 x hx
theorem T.small_mem {t x:T} (h:t.small) (hx:x ∈ t.l):x.small:=by
 cases t; rw [T.small] at h; exact smallL_mem h.2 x hx

theorem same_eq (x y:T):same x y = (x.k == y.k && (x.n == y.n && (bseq x.s y.s && (((x.l.length:Int) == (y.l.length:Int)) && sameL x.l y.l)))):=by
 cases x; rw [same]; rfl
theorem sameL_drop {l m:List T} {i:Nat} (h1:i < l.length) (h2:i < m.length):sameL (l.drop i) (m.drop i) = (same l[i] m[i] && sameL (l.drop (i + 1)) (m.drop (i + 1))):=by
 rw [List.drop_eq_getElem_cons h1,List.drop_eq_getElem_cons h2,sameL]

section
variable {B:Nat} {w0:World} {G:Nat -> AV}

theorem forms_runs (B:Nat) (w0:World) (G:Nat -> AV):callB (EV B w0 G) annA (fun _ => none) 300 200 (.fn 129) [] noObj (cameB formsV) = true:=by kernel_rfl

theorem loop33 {N:Nat} {x y:T} (hH:HOk1 (EV B w0 G) (H33 (EV B w0 G) N)) (hN:∀ z ∈ x.l,z.small /\ SizeOf.sizeOf z < N) (h64:x.l.length <= 64) (Q:Post) (a:AAct) (σ:State) (h:L33 x y (.loop (lbody Tryz.prog 33 0)) Q a σ) :
  AWp (EV B w0 G) none (fnTmps Tryz.prog 33) (.loop (lbody Tryz.prog 33 0)) Q a σ:=by
 obtain ⟨hxy,h1,h2,h3⟩:=h
 refine awp_loopE (li33 x y) (x0:=0) (fun i hI => body_wp (EV_mixed B w0 G) hH (by kernel_rfl) (by kernel_rfl) ((vc33l B w0 G N x y i).mpr ?_)) (fun z hI e a σ hne k => ?_) ⟨Nat.zero_le _,by simp⟩ h1
 ·obtain ⟨hi,hc⟩:=hI
  rw [tcellL_length,tcellL_length]
  refine bcase_of (fun hb => ?_) (fun hb => ?_)
  ·have hb:i < x.l.length:=by simpa using hb
   have hb':i < y.l.length:=by omega
   rw [sameL_drop hb hb'] at hc
   have hm:=hN _ (List.getElem_mem hb)
   refine ⟨⟨by omega,by omega⟩,x.l[i],by rw [Int.toNat_natCast]; exact tcellL_get hb,⟨by omega,by omega⟩,y.l[i],by rw [Int.toNat_natCast]; exact tcellL_get hb',x.l[i],y.l[i],rfl,hm,bcase_of (fun h4 => ?_) (fun h4 => ?_)⟩
   ·have h4:same x.l[i] y.l[i] = false:=by simpa using h4
    rw [h4] at hc
    exact ⟨hc,rfl,rfl,trivial⟩
   ·have h4:same x.l[i] y.l[i] = true:=by simpa using h4
    rw [h4,Bool.true_and] at hc
    exact ⟨i + 1,⟨⟨hb,hc⟩,show x.l.length - (i + 1) < x.l.length - i by omega⟩,rfl,rfl,by
     have:IntKind.wrap .i64 ((i:Int) + 1) = ((i + 1:Nat):Int):=by rw [wr_small (by omega) (by omega)]; omega
     rw [this],rfl,rfl,rfl,trivial⟩
  ·have hb:¬ i < x.l.length:=by simpa using hb
   have e:sameL (List.drop i x.l) (List.drop i y.l) = true:=by
    rw [List.drop_of_length_le (by omega)]
    rfl
   exact ⟨by rw [hc,e],rfl,trivial⟩
 ·cases e with
  | exit id =>
   cases id with
   | zero => exact exit_at (F:=[]) (FL:=[]) (L:=[]) (m:=0) k.2 (h2 k.1)
   | succ id => exact k.elim
  | ret => exact exit_at (F:=[(4,.v (.bool false))]) (FL:=[]) (L:=[]) (m:=0) k.2 (h3 k.1)
  | normal => exact absurd rfl hne
  | _ => exact k.elim

variable (hG:∀ i,NoId (G i))
include hG
theorem c129_ok:ContractOk (EV B w0 G) 129 C129:=by
 rintro args σ Q ⟨rfl,hQ⟩
 refine ACalls.pureD 60 hG (by simp) (callB_ok (EV_mixed B w0 G) (T:=fun _ => none) (fun f h e => by cases e) 200 (.fn 129) [] noObj _ (forms_runs B w0 G)) fun v σ' k => ?_
 unfold cameB at k
 split at k
 ·rename_i v' hv'
  have:=AV.same_ok _ _ k
  subst this
  exact ⟨_,_,hv',.refl _,formsV_noId hG,hQ⟩
 ·cases k

theorem c33_ok:∀ N,ContractOk (EV B w0 G) 33 (C33 N)
 | 0 => by
  rintro args σ Q ⟨x,y,rfl,hN,hQ⟩
  omega
 | N + 1 => by
  rintro args σ Q ⟨x,y,rfl,⟨hs,hN⟩,hQ⟩
  have hH:HOk1 (EV B w0 G) (H33 (EV B w0 G) N):=hnd_ok (EV_mixed B w0 G) (contracts_cons (c33_ok N) contracts_nil)
  refine pure_of hG (fun v hv => ?_) (.bool _) (fun Q hQ => ?_) hQ
  ·simp only [List.mem_cons,List.not_mem_nil,or_false] at hv
   rcases hv with rfl | rfl
   ·exact agg_tc_noId x
   ·exact agg_tc_noId y
  refine bodyC_ok (EV_mixed B w0 G) hH (fun l hl _ Q a σ k => ?_) ((vc33 B w0 G N x y Q).mpr ?_)
  ·change l ∈ fnLoops Tryz.prog 33 at hl
   rw [fnLoops_33] at hl
   simp only [List.mem_cons,List.not_mem_nil,or_false] at hl
   subst hl
   exact loop33 hH (fun z hz => ⟨T.small_mem hs hz,by have:=T.sizeOf_mem hz; omega⟩) (T.small_len hs) Q a σ k
  ·rw [tcellL_length,tcellL_length]
   rw [same_eq] at hQ
   refine bcase_of (fun h1 => ?_) (fun h1 => bcase_of (fun h2 => ?_) (fun h2 => bcase_of (fun h3 => ?_) (fun h3 => bcase_of (fun h4 => ?_) (fun h4 => ⟨Int.ofNat_inj.1 (by simpa [bne] using h4),⟨rfl,rfl,rfl,rfl,rfl,rfl,trivial⟩,fun h5 => ?_,fun h5 => ?_⟩))))
   ·have e:(x.k == y.k) = false:=by simpa [bne] using h1
    rw [e] at hQ; exact hQ _
   ·have e1:(x.k == y.k) = true:=by simpa [bne] using h1
    have e:(x.n == y.n) = false:=by simpa [bne] using h2
    rw [e1,e] at hQ; exact hQ _
   ·have e1:(x.k == y.k) = true:=by simpa [bne] using h1
    have e2:(x.n == y.n) = true:=by simpa [bne] using h2
    have e:bseq x.s y.s = false:=by simpa using h3
    rw [e1,e2,e] at hQ; exact hQ _
   ·have e1:(x.k == y.k) = true:=by simpa [bne] using h1
    have e2:(x.n == y.n) = true:=by simpa [bne] using h2
    have e3:bseq x.s y.s = true:=by simpa using h3
    have e:((x.l.length:Int) == (y.l.length:Int)) = false:=by simpa [bne] using h4
    rw [e1,e2,e3,e] at hQ; exact hQ _
   ·have e1:(x.k == y.k) = true:=by simpa [bne] using h1
    have e2:(x.n == y.n) = true:=by simpa [bne] using h2
    have e3:bseq x.s y.s = true:=by simpa using h3
    have e:((x.l.length:Int) == (y.l.length:Int)) = true:=by simpa [bne] using h4
    rw [e1,e2,e3,e,h5] at hQ; exact hQ _
   ·have e1:(x.k == y.k) = true:=by simpa [bne] using h1
    have e2:(x.n == y.n) = true:=by simpa [bne] using h2
    have e3:bseq x.s y.s = true:=by simpa using h3
    have e:((x.l.length:Int) == (y.l.length:Int)) = true:=by simpa [bne] using h4
    rw [e1,e2,e3,e,h5] at hQ; exact hQ _
end
end Go.V
/- Conditions: copies of terms. -/
namespace Go.V
open Go Go.Proofs

end Go.V
/- Copies of terms. -/
namespace Go.V
open Go Go.Proofs

theorem tcellL_sz (l:List T):∀ x ∈ tcellL l,x.cells.length = 4:=by
 intro x hx
 rw [tcellL_eq,List.mem_map] at hx
 obtain ⟨t,_,rfl⟩:=hx
 rw [tcell_eq]; rfl
theorem flat_tcellL_length (l:List T):(flat (tcellL l)).length = l.length * 4:=by
 rw [flat_length (tcellL_sz l),tcellL_length]
mutual
theorem deep_tcell (P:Program) (σ:State):∀ (t:T) (n:Nat),2 * SizeOf.sizeOf t < n -> deep P σ n (tcell t) = some (tcell t)
 | .mk k m s l,0,h => by omega
 | .mk k m s l,1,h => by simp at h; omega
 | .mk k m s l,n + 2,h => by
  have hl:(tcellL l).mapM (deep P σ n) = some (tcellL l):=deep_tcellL P σ l n (by simp at h; omega)
  rw [tcell]
  simp only [deep,List.mapM_cons,List.mapM_nil,Option.pure_def,Option.bind_eq_bind,Option.bind_some,hl,Option.map_some,nnCap]
theorem deep_tcellL (P:Program) (σ:State):∀ (l:List T) (n:Nat),2 * SizeOf.sizeOf l < n -> (tcellL l).mapM (deep P σ n) = some (tcellL l)
 | [],n,h => by simp [tcellL]
 | t :: l,n,h => by
  rw [tcellL,List.mapM_cons,deep_tcell P σ t n (by simp at h; omega),deep_tcellL P σ l n (by simp at h; omega)]
  rfl
end

section
variable {B:Nat} {w0:World} {G:Nat -> AV}
variable (hG:∀ i,NoId (G i))
include hG
end
end Go.V
