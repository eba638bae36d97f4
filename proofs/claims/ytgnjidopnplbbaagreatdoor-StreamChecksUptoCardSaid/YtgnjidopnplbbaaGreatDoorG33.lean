import Derived.Test.YtgnjidopnplbbaaGreatDoorG32
import Derived.Test.YtgnjidopnplbbaaGreatDoorG19
/- Conditions: the nodes of a term, its variables. -/
set_option maxRecDepth 1000000
set_option linter.unusedVariables false
namespace Go.V
open Go Go.Proofs

mutual
def nodesT:T -> List T
 | .mk k n s l => .mk k n s l :: nodesTL l
def nodesTL:List T -> List T
 | [] => []
 | x :: l => nodesT x ++ nodesTL l
end

def handY (Y:Nat -> Contract) (H:Hand):Hand:=fun t args σ K => match t with
 | .yield id => Y id args σ K
 | .fn f => H (.fn f) args σ K
def YTn (yid:Nat) (S:List T -> State -> Prop):Nat -> Contract:=fun id args σ K => ∃ (t:T) (acc:List T),(id = yid /\ args = [.agg (tc t)]) /\ (acc.length < 100000 /\ S acc σ) /\ ∀ σ':State,S (acc ++ [t]) σ' -> K (.bool true) σ'
def C208 (yid:Nat) (S:List T -> State -> Prop) (N:Nat):Contract:=fun args σ K => ∃ (t:T) (acc:List T),args = [.agg (tc t),.yield yid] /\ (SizeOf.sizeOf t < N /\ acc.length + (nodesT t).length <= 100000 /\ S acc σ) /\
 ∀ σ':State,S (acc ++ nodesT t) σ' -> K (.bool true) σ'
def H208 (E:Env) (yid:Nat) (S:List T -> State -> Prop) (N:Nat):Hand:=handY (YTn yid S) (hnd E annA noHints [(208,C208 yid S N)])
structure Y208 where
 σ:State
 acc:List T
 i:Nat
def hT:Hint:=Hint.as (fun t:T => .vptr (tc t))
def ls208 (yid:Nat) (t:T) (I:Y208 -> Prop):LS Y208 where
 F y:=[(1,.v (.yield yid)),(12,.v (.slice 4 (tcellL t.l) .any)),(13,.v (.int .i64 ((tcellL t.l).length:Int))),(14,.v (.int .i64 (y.i:Int)))]
 FL _:=[]
 S y:=y.σ
 I:=I
 μ y:=t.l.length - y.i
 Ex y e a σ:=match e with
  | .exit 0 => ¬ (y.i < t.l.length) /\ atF a [] [] (y.σ.Le σ)
  | _ => False
def N208:FnHint:=hAt [(5,0,hT)]
theorem fnParts_208:fnParts Tryz.prog [] 208 = [.loop (bodyOf (fnPart Tryz.prog [] 208 0))]:=by kernel_rfl
theorem vc208l (B:Nat) (w0:World) (G:Nat -> AV) (yid:Nat) (S:List T -> State -> Prop) (N:Nat) (t:T) (I:Y208 -> Prop) (y:Y208):(wpX [] (EV B w0 G) (H208 (EV B w0 G) yid S N) (fun _ _ _ _ => False) (annA 208) N208 (bodyOf (fnPart Tryz.prog [] 208 0)) ((ls208 yid t I).post y) (frm [(1,.v (.yield yid)),(12,.v (.slice 4 (tcellL t.l) .any)),(13,.v (.int .i64 ((tcellL t.l).length:Int))),(14,.v (.int .i64 (y.i:Int)))] []) y.σ) =
 ((bcase (decide ((((Y208.i y:Nat):Int):Int) < (((List.length (tcellL (T.l t))):Nat):Int)))
 ((((0:Int) <= ((Y208.i y:Nat):Int))/\
 ((((Y208.i y:Nat):Int):Int) < (((List.length (tcellL (T.l t))):Nat):Int)))/\
 (∃ x0:T,(((AV.vptr (AV.cells (List.getD (tcellL (T.l t)) (Int.toNat (↑(Y208.i y):Int)) AV.undef))) = (AV.vptr [(AV.int .i64 (T.k x0)),(AV.int .i64 (T.n x0)),(AV.str (T.s x0)),(AV.slice 4 (tcellL (T.l x0)) Cap.any)]))/\
 (∃ t1:T,(∃ acc2:List T,(([(AV.agg [(AV.int .i64 (T.k x0)),(AV.int .i64 (T.n x0)),(AV.str (T.s x0)),(AV.slice 4 (tcellL (T.l x0)) Cap.any)]),(AV.yield (yid))] = [(AV.agg [(AV.int .i64 (T.k t1)),(AV.int .i64 (T.n t1)),(AV.str (T.s t1)),(AV.slice 4 (tcellL (T.l t1)) Cap.any)]),(AV.yield (yid))])/\
 ((((SizeOf.sizeOf t1:Nat) < (N))/\
 (((((List.length (acc2)) + (List.length (nodesT t1))):Nat) <= 100000)/\
 (S (acc2) (y.1))))/\
 (∀ σ'3:State,((S ((acc2) ++ (nodesT t1)) σ'3) -> (∃ x'4:Y208,(((I (x'4))/\
 (((LS.μ (ls208 yid t I) x'4):Nat) < (LS.μ (ls208 yid t I) y)))/\
 ((Rf (TV.v (AV.yield (yid))))/\
 ((Rf (TV.v (AV.slice 4 (tcellL (T.l t)) Cap.any)))/\
 ((Rf (TV.v (AV.int .i64 (((List.length (tcellL (T.l t))):Nat):Int))))/\
 (((TV.v (AV.int .i64 (IntKind.wrap .i64 (((Y208.i y:Nat):Int) + 1)))) = (TV.v (AV.int .i64 ((Y208.i x'4:Nat):Int))))/\
 (State.Le ((ls208 yid t I).3 x'4) σ'3))))))))))))))))
 ((((Y208.i y:Nat) < (List.length (T.l t))) -> False)/\
 (State.Le (y.1) (y.1))))):=by kernel_rfl
def T208 (yid:Nat) (t:T) (I R:Y208 -> Prop):LHand:=fun _ Q a σ => ∃ y:Y208,I y /\ atF a ((ls208 yid t I).F y) [] (y.σ.Le σ) /\ ∀ y':Y208,R y' -> Q (.exit 0) (frm [] []) y'.σ
theorem vc208 (B:Nat) (w0:World) (G:Nat -> AV) (yid:Nat) (S:List T -> State -> Prop) (N:Nat) (t:T) (I R:Y208 -> Prop) (σ:State) (Q:AV -> State -> Prop):(bodyX [] (EV B w0 G) (H208 (EV B w0 G) yid S N) (T208 yid t I R) annA noHint 208 [.agg (tc t),.yield yid] σ Q) =
 ((∃ t0:T,(∃ acc1:List T,(((((yid):Nat) = (yid))/\
 ([(AV.agg [(AV.int .i64 (T.k t)),(AV.int .i64 (T.n t)),(AV.str (T.s t)),(AV.slice 4 (tcellL (T.l t)) Cap.any)])] = [(AV.agg [(AV.int .i64 (T.k t0)),(AV.int .i64 (T.n t0)),(AV.str (T.s t0)),(AV.slice 4 (tcellL (T.l t0)) Cap.any)])]))/\
 (((((List.length (acc1)):Nat) < 100000)/\
 (S (acc1) σ))/\
 (∀ σ'2:State,((S ((acc1) ++ [(t0)]) σ'2) -> (∃ y3:Y208,((I (y3))/\
 (((Rf (TV.v (AV.yield (yid))))/\
 ((Rf (TV.v (AV.slice 4 (tcellL (T.l t)) Cap.any)))/\
 ((Rf (TV.v (AV.int .i64 (((List.length (tcellL (T.l t))):Nat):Int))))/\
 (((TV.v (AV.int .i64 0)) = (TV.v (AV.int .i64 ((Y208.i y3:Nat):Int))))/\
 (State.Le (y3.1) σ'2)))))/\
 (∀ y'4:Y208,((R (y'4)) -> (Q (AV.bool true) (y'4.1)))))))))))))):=by kernel_rfl
/- nodes' function -/
structure OT where
 t:T
 g:Bool
def N207:FnHint:=hAt [(0,0,Hint.of (fun x:OT => AObj.cells (tc x.t) 37 4 x.g))]
theorem vc207 (B:Nat) (w0:World) (G:Nat -> AV) (yid:Nat) (S:List T -> State -> Prop) (N:Nat) (b:Nat) (σ:State) (Q:AV -> State -> Prop):(bodyX [] (EV B w0 G) (hnd (EV B w0 G) annA noHints [(208,C208 yid S N)]) (fun _ _ _ _ => False) annA N207 207 [.yield yid,.ptr b 0] σ Q) =
 ((∃ a0:OT,(((State.objs σ (b)) = (AObj.cells [(AV.int .i64 (T.k (OT.t a0))),(AV.int .i64 (T.n (OT.t a0))),(AV.str (T.s (OT.t a0))),(AV.slice 4 (tcellL (T.l (OT.t a0))) Cap.any)] 37 4 (OT.g a0)))/\
 (((4:Nat) <= 4)/\
 (∃ t1:T,(∃ acc2:List T,(([(AV.agg [(AV.int .i64 (T.k (OT.t a0))),(AV.int .i64 (T.n (OT.t a0))),(AV.str (T.s (OT.t a0))),(AV.slice 4 (tcellL (T.l (OT.t a0))) Cap.any)]),(AV.yield (yid))] = [(AV.agg [(AV.int .i64 (T.k t1)),(AV.int .i64 (T.n t1)),(AV.str (T.s t1)),(AV.slice 4 (tcellL (T.l t1)) Cap.any)]),(AV.yield (yid))])/\
 ((((SizeOf.sizeOf t1:Nat) < (N))/\
 (((((List.length (acc2)) + (List.length (nodesT t1))):Nat) <= 100000)/\
 (S (acc2) σ)))/\
 (∀ σ'3:State,((S ((acc2) ++ (nodesT t1)) σ'3) -> (Q (AV.tuple []) σ'3))))))))))):=by kernel_rfl
end Go.V
/- The nodes of a term, walked. -/
set_option linter.unusedSimpArgs false
set_option linter.unusedSectionVars false
namespace Go.V
open Go Go.Proofs

theorem handY_ok {E:Env} {Y:Nat -> Contract} {H:Hand} (hH:HOk1 E H) (hY:∀ id args σ Q,Y id args σ Q -> AYield E id args σ Q):HOk1 E (handY Y H):=fun t args σ Q h => by
 cases t with
 | yield id => exact hY _ _ _ _ h
 | fn f => exact hH _ _ _ _ h

theorem nodesT_eq (t:T):nodesT t = t :: nodesTL t.l:=by
 cases t; rw [nodesT]; rfl
theorem nodesTL_append:∀ l m:List T,nodesTL (l ++ m) = nodesTL l ++ nodesTL m
 | [],m => rfl
 | x :: l,m => by
  show nodesTL (x :: (l ++ m)) = nodesTL (x :: l) ++ nodesTL m
  rw [nodesTL,nodesTL,nodesTL_append l m,List.append_assoc]
theorem nodesTL_take {l:List T} {i:Nat} (h:i < l.length):nodesTL (l.take (i + 1)) = nodesTL (l.take i) ++ nodesT l[i]:=by
 rw [List.take_succ_eq_append_getElem h,nodesTL_append]
 simp [nodesTL]
theorem nodesTL_take_le (l:List T) (i:Nat):(nodesTL (l.take i)).length <= (nodesTL l).length:=by
 have:=nodesTL_append (l.take i) (l.drop i)
 rw [List.take_append_drop] at this
 rw [this,List.length_append]; omega
theorem nodesT_pos (t:T):1 <= (nodesT t).length:=by
 rw [nodesT_eq]; simp
theorem nodesTL_len:∀ l:List T,l.length <= (nodesTL l).length
 | [] => Nat.zero_le _
 | x :: l => by
  have h1:=nodesTL_len l
  have h2:=nodesT_pos x
  rw [nodesTL,List.length_append,List.length_cons]; omega

section
variable {B:Nat} {w0:World} {G:Nat -> AV}

theorem c208_ok {yid:Nat} {S:List T -> State -> Prop} (hY:∀ id args σ Q,YTn yid S id args σ Q -> AYield (EV B w0 G) id args σ Q):∀ N,ContractOk (EV B w0 G) 208 (C208 yid S N)
 | 0 => by
  rintro args σ Q ⟨t,acc,rfl,⟨hN,_⟩,hQ⟩
  omega
 | N + 1 => by
  rintro args σ Q ⟨t,acc,rfl,⟨hN,hb,hS⟩,hQ⟩
  have hH:HOk1 (EV B w0 G) (H208 (EV B w0 G) yid S N):=handY_ok (hnd_ok (EV_mixed B w0 G) (contracts_cons (c208_ok hY N) contracts_nil)) hY
  have hb2:acc.length + 1 + (nodesTL t.l).length <= 100000:=by rw [nodesT_eq,List.length_cons] at hb; omega
  have hlen:=nodesTL_len t.l
  refine bodyX_ok (cuts:=[]) (EV_mixed B w0 G) hH (fun lp hl _ Q a' σ kk => ?_) ((vc208 B w0 G yid S N t (fun y => y.i <= t.l.length /\ S (acc ++ [t] ++ nodesTL (t.l.take y.i)) y.σ) (fun y => S (acc ++ nodesT t) y.σ) σ Q).mpr
   ⟨t,acc,⟨rfl,rfl⟩,⟨by omega,hS⟩,fun σ' hS' => ⟨⟨σ',acc,0⟩,⟨Nat.zero_le _,by simpa [nodesTL] using hS'⟩,⟨rfl,rfl,rfl,rfl,.refl _⟩,fun y' hy => hQ _ hy⟩⟩)
  change lp ∈ fnParts Tryz.prog [] 208 at hl
  rw [fnParts_208] at hl
  simp only [List.mem_cons,List.not_mem_nil,or_false] at hl
  subst hl
  obtain ⟨y0,hI0,hat,hR⟩:=kk
  refine awp_loopS (ls208 yid t (fun y => y.i <= t.l.length /\ S (acc ++ [t] ++ nodesTL (t.l.take y.i)) y.σ)) (x0:=y0) (fun y hI => ?_) (fun y hI e a' σ hne kk => ?_) hI0 hat
  ·have hI':y.i <= t.l.length /\ S (acc ++ [t] ++ nodesTL (t.l.take y.i)) y.σ:=hI
   obtain ⟨hi,hSy⟩:=hI'
   show AWp _ _ _ _ _ (frm [(1,.v (.yield yid)),(12,.v (.slice 4 (tcellL t.l) .any)),(13,.v (.int .i64 ((tcellL t.l).length:Int))),(14,.v (.int .i64 (y.i:Int)))] []) y.σ
   refine wpX_ok hH (EV_mixed B w0 G) (L:=fun _ _ _ _ => False) _ _ _ _ (fun p hp hc Q a σ k => k.elim) (by kernel_rfl) ((vc208l B w0 G yid S N t _ y).mpr (bcase_of (fun h => ?_) (fun h => ⟨fun h2 => ?_,.refl _⟩)))
   ·have h:=of_decide_eq_true h
    have hk:y.i < t.l.length:=by rw [tcellL_length] at h; omega
    have w1:IntKind.wrap .i64 ((y.i:Int) + 1) = ((y.i + 1:Nat):Int):=by rw [wr_small (by omega) (by omega)]; omega
    have hle:=nodesTL_take_le t.l (y.i + 1)
    rw [nodesTL_take hk,List.length_append] at hle
    refine ⟨⟨by omega,h⟩,t.l[y.i],by rw [Int.toNat_natCast]; exact tcellL_get hk,t.l[y.i],acc ++ [t] ++ nodesTL (t.l.take y.i),rfl,⟨?_,?_,hSy⟩,fun σ' hS' => ⟨⟨σ',acc,y.i + 1⟩,⟨⟨hk,?_⟩,?_⟩,rfl,rfl,rfl,?_,.refl _⟩⟩
    ·have:=T.sizeOf_mem (List.getElem_mem hk); omega
    ·simp only [List.length_append,List.length_cons,List.length_nil]; omega
    ·show S (acc ++ [t] ++ nodesTL (t.l.take (y.i + 1))) σ'
     rw [nodesTL_take hk,<-List.append_assoc]; exact hS'
    ·show t.l.length - (y.i + 1) < t.l.length - y.i
     omega
    ·show TV.v (AV.int .i64 _) = TV.v (AV.int .i64 ((y.i + 1:Nat):Int))
     rw [w1]
   ·have h:=of_decide_eq_false h
    rw [tcellL_length] at h; omega
  ·have hI':y.i <= t.l.length /\ S (acc ++ [t] ++ nodesTL (t.l.take y.i)) y.σ:=hI
   obtain ⟨hi,hSy⟩:=hI'
   cases e with
   | exit j =>
    match j,kk with
    | 0,kk =>
     have hk:¬ y.i < t.l.length:=kk.1
     refine ⟨_,_,(atF_ok kk.2).1,(atF_ok kk.2).2,hR y ?_⟩
     rw [show y.i = t.l.length by omega,List.take_length,List.append_assoc] at hSy
     rw [nodesT_eq]; exact hSy
   | normal => exact absurd rfl hne
   | _ => exact kk.elim

def C207 (yid:Nat) (S:List T -> State -> Prop):Contract:=fun args σ K => ∃ (b:Nat) (t:T) (g:Bool) (acc:List T),args = [.yield yid,.ptr b 0] /\ (σ.objs b = .cells (tc t) 37 4 g /\ acc.length + (nodesT t).length <= 100000 /\ S acc σ) /\
 ∀ σ':State,S (acc ++ nodesT t) σ' -> K (.tuple []) σ'
theorem c207_ok {yid:Nat} {S:List T -> State -> Prop} (hY:∀ id args σ Q,YTn yid S id args σ Q -> AYield (EV B w0 G) id args σ Q):ContractOk (EV B w0 G) 207 (C207 yid S):=by
 rintro args σ Q ⟨b,t,g,acc,rfl,⟨ho,hb,hS⟩,hQ⟩
 have hH:=hnd_ok (EV_mixed B w0 G) (A:=annA) (N:=noHints) (contracts_cons (c208_ok hY (SizeOf.sizeOf t + 1)) contracts_nil)
 refine bodyX_ok (cuts:=[]) (EV_mixed B w0 G) hH (fun lp hl _ Q a' σ kk => kk.elim) ((vc207 B w0 G yid S (SizeOf.sizeOf t + 1) b σ Q).mpr ⟨⟨t,g⟩,ho,Nat.le_refl _,t,acc,rfl,⟨Nat.lt_succ_self _,hb,hS⟩,fun σ' hS' => hQ σ' hS'⟩)
end
end Go.V
