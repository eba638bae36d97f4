import Derived.Test.YtgnjidopnplbbaaGreatDoorG16
/- Conditions: the program's Same. -/
set_option maxRecDepth 1000000
set_option linter.unusedVariables false
namespace Go.V
open Go Go.Proofs

def fnSame:AV:=.func (.func 62) [] []
def C62 (N:Nat):Contract:=fun args σ K => ∃ (a b:T),args = [.agg (tc a),.agg (tc b)] /\ (a.small /\ SizeOf.sizeOf a < N) /\ K (.bool (same a b)) σ.untok
def C104 (N:Nat):Contract:=fun args σ K => ∃ (a b:List T),args = [.slice 4 (tcellL a) .any,.slice 4 (tcellL b) .any,fnSame] /\ (a.length <= 64 /\ ∀ z ∈ a,z.small /\ SizeOf.sizeOf z < N) /\
 K (.bool (((a.length:Int) == (b.length:Int)) && sameL a b)) σ.untok
def H62 (E:Env) (N:Nat):Hand:=hnd E annA noHints [(104,C104 N)]
def H104 (E:Env) (N:Nat):Hand:=hnd E annA noHints [(62,C62 N)]
def N104:FnHint:=fun id i => match (Nat.beq id 5 && Nat.beq i 1) || (Nat.beq id 6 && Nat.beq i 2) with
 | true => Hint.as (fun t:T => .vptr (tc t))
 | false => Hint.no
def li104 (a b:List T):LI Nat where
 F i:=[(1,.v (.slice 4 (tcellL b) .any)),(2,.v fnSame),(15,.v (.slice 4 (tcellL a) .any)),(16,.v (.int .i64 (a.length:Int))),(17,.v (.int .i64 i))]
 FL _:=[]
 L _:=[]
 m _:=0
 I i:=i <= a.length /\ sameL a b = sameL (a.drop i) (b.drop i)
 μ i:=a.length - i
 Ex _ e x σ:=match e with
  | .exit 0 => sameL a b = true /\ atFS x σ [] [] [] 0
  | .ret => sameL a b = false /\ atFS x σ [(6,.v (.bool false))] [] [] 0
  | _ => False
theorem fnLoops_104:fnLoops Tryz.prog 104 = [.loop (lbody Tryz.prog 104 0)]:=by kernel_rfl
theorem vc104l (B:Nat) (w0:World) (G:Nat -> AV) (N:Nat) (a b:List T) (i:Nat):(wpC (EV B w0 G) (H104 (EV B w0 G) N) (fun _ _ _ _ => False) (annA 104) N104 (lbody Tryz.prog 104 0) ((li104 a b).post i) (frm ((li104 a b).F i) ((li104 a b).FL i)) (lst ((li104 a b).L i) ((li104 a b).m i))) =
 ((bcase (decide ((((i:Nat):Int):Int) < (((List.length (a)):Nat):Int)))
 ((((0:Int) <= ((i:Nat):Int))/\
 ((((i:Nat):Int):Int) < (((List.length (tcellL a)):Nat):Int)))/\
 (∃ x0:T,(((AV.vptr (AV.cells (List.getD (tcellL a) (Int.toNat (↑i:Int)) AV.undef))) = (AV.vptr [(AV.int .i64 (T.k x0)),(AV.int .i64 (T.n x0)),(AV.str (T.s x0)),(AV.slice 4 (tcellL (T.l x0)) Cap.any)]))/\
 ((((0:Int) <= ((i:Nat):Int))/\
 ((((i:Nat):Int):Int) < (((List.length (tcellL b)):Nat):Int)))/\
 (∃ x1:T,(((AV.vptr (AV.cells (List.getD (tcellL b) (Int.toNat (↑i:Int)) AV.undef))) = (AV.vptr [(AV.int .i64 (T.k x1)),(AV.int .i64 (T.n x1)),(AV.str (T.s x1)),(AV.slice 4 (tcellL (T.l x1)) Cap.any)]))/\
 (∃ a2:T,(∃ b3:T,(([(AV.agg [(AV.int .i64 (T.k x0)),(AV.int .i64 (T.n x0)),(AV.str (T.s x0)),(AV.slice 4 (tcellL (T.l x0)) Cap.any)]),(AV.agg [(AV.int .i64 (T.k x1)),(AV.int .i64 (T.n x1)),(AV.str (T.s x1)),(AV.slice 4 (tcellL (T.l x1)) Cap.any)])] = [(AV.agg [(AV.int .i64 (T.k a2)),(AV.int .i64 (T.n a2)),(AV.str (T.s a2)),(AV.slice 4 (tcellL (T.l a2)) Cap.any)]),(AV.agg [(AV.int .i64 (T.k b3)),(AV.int .i64 (T.n b3)),(AV.str (T.s b3)),(AV.slice 4 (tcellL (T.l b3)) Cap.any)])])/\
 (((T.small a2)/\
 ((SizeOf.sizeOf a2:Nat) < (N)))/\
 (bcase (!(same a2 b3))
 (((sameL a b) = false)/\
 ((Rf (TV.v (AV.bool false)))/\
 (((0:Nat) = 0)/\
 True)))
 (∃ x'4:Nat,((((((x'4):Nat) <= (List.length (a)))/\
 ((sameL a b) = (sameL (List.drop x'4 a) (List.drop x'4 b))))/\
 (((LI.μ (li104 a b) x'4):Nat) < (LI.μ (li104 a b) i)))/\
 ((Rf (TV.v (AV.slice 4 (tcellL b) Cap.any)))/\
 ((Rf (TV.v (AV.func (Go.Fn.func 62) [] [])))/\
 ((Rf (TV.v (AV.slice 4 (tcellL a) Cap.any)))/\
 ((Rf (TV.v (AV.int .i64 (((List.length (a)):Nat):Int))))/\
 (((TV.v (AV.int .i64 (IntKind.wrap .i64 (((i:Nat):Int) + 1)))) = (TV.v (AV.int .i64 (((x'4):Nat):Int))))/\
 (((0:Nat) = 0)/\
 True)))))))))))))))))))
 (((sameL a b) = true)/\
 (((0:Nat) = 0)/\
 True)))):=by kernel_rfl
def L104 (a b:List T):LHand:=fun _ Q x σ => a.length = b.length /\ atFS x σ ((li104 a b).F 0) ((li104 a b).FL 0) [] 0 /\
 ((sameL a b = true -> Q (.exit 0) (frm [] []) (lst [] 0)) /\ (sameL a b = false -> Q .ret (frm [(6,.v (.bool false))] []) (lst [] 0)))
theorem vc104 (B:Nat) (w0:World) (G:Nat -> AV) (N:Nat) (a b:List T) (Q:AV -> State -> Prop):(bodyC (EV B w0 G) (H104 (EV B w0 G) N) (L104 a b) annA N104 104 [.slice 4 (tcellL a) .any,.slice 4 (tcellL b) .any,fnSame] noObj Q) =
 ((bcase (((((List.length (tcellL a)):Nat):Int):Int) != (((List.length (tcellL b)):Nat):Int))
 (Q (AV.bool false) (noObj))
 ((((List.length (a)):Nat) = (List.length (b)))/\
 (((Rf (TV.v (AV.slice 4 (tcellL b) Cap.any)))/\
 ((Rf (TV.v (AV.func (Go.Fn.func 62) [] [])))/\
 ((Rf (TV.v (AV.slice 4 (tcellL a) Cap.any)))/\
 (((TV.v (AV.int .i64 (((List.length (tcellL a)):Nat):Int))) = (TV.v (AV.int .i64 (((List.length (a)):Nat):Int))))/\
 ((Rf (TV.v (AV.int .i64 0)))/\
 (((0:Nat) = 0)/\
 True))))))/\
 ((((sameL a b) = true) -> (Q (AV.bool true) (lst [] 0)))/\
 (((sameL a b) = false) -> (Q (AV.bool false) (lst [] 0)))))))):=by kernel_rfl
theorem vc62 (B:Nat) (w0:World) (G:Nat -> AV) (N:Nat) (x y:T) (Q:AV -> State -> Prop):(bodyC (EV B w0 G) (H62 (EV B w0 G) N) (fun _ _ _ _ => False) annA noHint 62 [.agg (tc x),.agg (tc y)] noObj Q) =
 ((bcase (((T.k x):Int) == (T.k y))
 (bcase (((T.n x):Int) == (T.n y))
 (bcase (bseq (T.s x) (T.s y))
 (∃ a0:List T,(∃ b1:List T,(([(AV.slice 4 (tcellL (T.l x)) Cap.any),(AV.slice 4 (tcellL (T.l y)) Cap.any),(AV.func (Go.Fn.func 62) [] [])] = [(AV.slice 4 (tcellL a0) Cap.any),(AV.slice 4 (tcellL b1) Cap.any),(AV.func (Go.Fn.func 62) [] [])])/\
 (((((List.length (a0)):Nat) <= 64)/\
 (∀ z2:T,((z2 ∈ a0) -> ((T.small z2)/\
 ((SizeOf.sizeOf z2:Nat) < (N))))))/\
 (Q (AV.bool ((((((List.length (a0)):Nat):Int):Int) == (((List.length (b1)):Nat):Int)) && (sameL a0 b1))) (State.untok (noObj)))))))
 (Q (AV.bool false) (noObj)))
 (Q (AV.bool false) (noObj)))
 (Q (AV.bool false) (noObj)))):=by kernel_rfl
end Go.V
/- The program's Same. -/
set_option linter.unusedSimpArgs false
set_option linter.unusedSectionVars false
namespace Go.V
open Go Go.Proofs

theorem slT_noId (l:List T):NoId (.slice 4 (tcellL l) .any):=.slice (by simp) fun y hy => (tcellL_noId l).2 y hy
theorem fnSame_noId:NoId fnSame:=(noIdB_ok fnSame (by kernel_rfl)).1

section
variable {B:Nat} {w0:World} {G:Nat -> AV}

theorem loop104 {N:Nat} {x y:List T} (hH:HOk1 (EV B w0 G) (H104 (EV B w0 G) N)) (hN:∀ z ∈ x,z.small /\ SizeOf.sizeOf z < N) (h64:x.length <= 64) (Q:Post) (a:AAct) (σ:State) (h:L104 x y (.loop (lbody Tryz.prog 104 0)) Q a σ) :
  AWp (EV B w0 G) none (fnTmps Tryz.prog 104) (.loop (lbody Tryz.prog 104 0)) Q a σ:=by
 obtain ⟨hxy,h1,h2,h3⟩:=h
 refine awp_loopE (li104 x y) (x0:=0) (fun i hI => body_wp (EV_mixed B w0 G) hH (by kernel_rfl) (by kernel_rfl) ((vc104l B w0 G N x y i).mpr ?_)) (fun z hI e a σ hne k => ?_) ⟨Nat.zero_le _,by simp⟩ h1
 ·obtain ⟨hi,hc⟩:=hI
  rw [tcellL_length,tcellL_length]
  refine bcase_of (fun hb => ?_) (fun hb => ?_)
  ·have hb:i < x.length:=by simpa using hb
   have hb':i < y.length:=by omega
   rw [sameL_drop hb hb'] at hc
   have hm:=hN _ (List.getElem_mem hb)
   refine ⟨⟨by omega,by omega⟩,x[i],by rw [Int.toNat_natCast]; exact tcellL_get hb,⟨by omega,by omega⟩,y[i],by rw [Int.toNat_natCast]; exact tcellL_get hb',x[i],y[i],rfl,hm,bcase_of (fun h4 => ?_) (fun h4 => ?_)⟩
   ·have h4:same x[i] y[i] = false:=by simpa using h4
    rw [h4] at hc
    exact ⟨hc,rfl,rfl,trivial⟩
   ·have h4:same x[i] y[i] = true:=by simpa using h4
    rw [h4,Bool.true_and] at hc
    exact ⟨i + 1,⟨⟨hb,hc⟩,show x.length - (i + 1) < x.length - i by omega⟩,rfl,rfl,rfl,rfl,by
     have:IntKind.wrap .i64 ((i:Int) + 1) = ((i + 1:Nat):Int):=by rw [wr_small (by omega) (by omega)]; omega
     rw [this],rfl,trivial⟩
  ·have hb:¬ i < x.length:=by simpa using hb
   have e:sameL (List.drop i x) (List.drop i y) = true:=by
    rw [List.drop_of_length_le (by omega)]
    rfl
   exact ⟨by rw [hc,e],rfl,trivial⟩
 ·cases e with
  | exit id =>
   cases id with
   | zero => exact exit_at (F:=[]) (FL:=[]) (L:=[]) (m:=0) k.2 (h2 k.1)
   | succ id => exact k.elim
  | ret => exact exit_at (F:=[(6,.v (.bool false))]) (FL:=[]) (L:=[]) (m:=0) k.2 (h3 k.1)
  | normal => exact absurd rfl hne
  | _ => exact k.elim

variable (hG:∀ i,NoId (G i))
include hG
theorem c104_of {N:Nat} (h:ContractOk (EV B w0 G) 62 (C62 N)):ContractOk (EV B w0 G) 104 (C104 N):=by
 rintro args σ Q ⟨x,y,rfl,⟨h64,hN⟩,hQ⟩
 have hH:HOk1 (EV B w0 G) (H104 (EV B w0 G) N):=hnd_ok (EV_mixed B w0 G) (contracts_cons h contracts_nil)
 refine pure_of hG (fun v hv => ?_) (.bool _) (fun Q hQ => ?_) hQ
 ·simp only [List.mem_cons,List.not_mem_nil,or_false] at hv
  rcases hv with rfl | rfl | rfl
  ·exact slT_noId x
  ·exact slT_noId y
  ·exact fnSame_noId
 refine bodyC_ok (EV_mixed B w0 G) hH (fun l hl _ Q a σ k => ?_) ((vc104 B w0 G N x y Q).mpr ?_)
 ·change l ∈ fnLoops Tryz.prog 104 at hl
  rw [fnLoops_104] at hl
  simp only [List.mem_cons,List.not_mem_nil,or_false] at hl
  subst hl
  exact loop104 hH hN h64 Q a σ k
 ·rw [tcellL_length,tcellL_length]
  refine bcase_of (fun h4 => ?_) (fun h4 => ⟨Int.ofNat_inj.1 (by simpa [bne] using h4),⟨rfl,rfl,rfl,rfl,rfl,rfl,trivial⟩,fun h5 => ?_,fun h5 => ?_⟩)
  ·have e:((x.length:Int) == (y.length:Int)) = false:=by simpa [bne] using h4
   rw [e] at hQ; exact hQ _
  ·have e:((x.length:Int) == (y.length:Int)) = true:=by simpa [bne] using h4
   rw [e,h5] at hQ; exact hQ _
  ·have e:((x.length:Int) == (y.length:Int)) = true:=by simpa [bne] using h4
   rw [e,h5] at hQ; exact hQ _

theorem c62_ok:∀ N,ContractOk (EV B w0 G) 62 (C62 N)
 | 0 => by
  rintro args σ Q ⟨x,y,rfl,hN,hQ⟩
  omega
 | N + 1 => by
  rintro args σ Q ⟨x,y,rfl,⟨hs,hN⟩,hQ⟩
  have hH:HOk1 (EV B w0 G) (H62 (EV B w0 G) N):=hnd_ok (EV_mixed B w0 G) (contracts_cons (c104_of hG (c62_ok N)) contracts_nil)
  refine pure_of hG (fun v hv => ?_) (.bool _) (fun Q hQ => ?_) hQ
  ·simp only [List.mem_cons,List.not_mem_nil,or_false] at hv
   rcases hv with rfl | rfl
   ·exact agg_tc_noId x
   ·exact agg_tc_noId y
  refine bodyC_ok (EV_mixed B w0 G) hH (fun l hl _ Q a σ k => k.elim) ((vc62 B w0 G N x y Q).mpr ?_)
  rw [same_eq] at hQ
  refine bcase_of (fun h1 => bcase_of (fun h2 => bcase_of (fun h3 => ⟨x.l,y.l,rfl,⟨T.small_len hs,fun z hz => ⟨T.small_mem hs hz,by have:=T.sizeOf_mem hz; omega⟩⟩,?_⟩) (fun h3 => ?_)) (fun h2 => ?_)) (fun h1 => ?_)
  ·rw [h1,h2,h3] at hQ; exact hQ _
  ·rw [h1,h2,h3] at hQ; exact hQ _
  ·rw [h1,h2] at hQ; exact hQ _
  ·rw [h1] at hQ; exact hQ _
end
end Go.V
