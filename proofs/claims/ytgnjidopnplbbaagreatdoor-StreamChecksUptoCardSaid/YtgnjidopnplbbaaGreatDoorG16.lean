import Derived.Test.YtgnjidopnplbbaaGreatDoorG15
import Derived.Test.YtgnjidopnplbbaaGreatDoorG12
/- Conditions: the reference's check of terms. -/
set_option maxRecDepth 1000000
set_option linter.unusedVariables false
namespace Go.V
open Go Go.Proofs

def okFrom (s:ByteArray) (i:Nat):Bool:=(s.data.toList.drop i).all fun b => decide (32 <= b.toNat) && decide (b.toNat <= 126)
def nameR (s:ByteArray):Bool:=okFrom s 0 && (decide ((s.size:Int) ≥ 1) && decide ((s.size:Int) <= 32))
def li158 (s:ByteArray):LI Nat where
 F i:=[(0,.v (.str s)),(3,.v (.int .i64 i))]
 FL _:=[]
 L _:=[]
 m _:=0
 I i:=i <= s.size /\ okFrom s 0 = okFrom s i
 μ i:=s.size - i
 Ex _ e a σ:=match e with
  | .exit 0 => okFrom s 0 = true /\ atFS a σ [(0,.v (.str s))] [] [] 0
  | .ret => okFrom s 0 = false /\ atFS a σ [(2,.v (.bool false))] [] [] 0
  | _ => False
theorem fnLoops_158:fnLoops Tryz.prog 158 = [.loop (lbody Tryz.prog 158 0)]:=by kernel_rfl
theorem vc158l (B:Nat) (w0:World) (G:Nat -> AV) (s:ByteArray) (i:Nat):(wpC (EV B w0 G) (H0 (EV B w0 G)) (fun _ _ _ _ => False) (annA 158) (symAt [(4,2),(4,7)]) (lbody Tryz.prog 158 0) ((li158 s).post i) (frm ((li158 s).F i) ((li158 s).FL i)) (lst ((li158 s).L i) ((li158 s).m i))) =
 ((bcase (decide ((((i:Nat):Int):Int) < ((ByteArray.size s:Nat):Int)))
 ((((0:Int) <= ((i:Nat):Int))/\
 ((((i:Nat):Int):Int) < ((ByteArray.size s:Nat):Int)))/\
 (bcase (decide (((((UInt8.toNat (List.getD (Array.toList (ByteArray.data s)) (Int.toNat (↑i:Int)) 0)):Nat):Int):Int) < 32))
 (((okFrom s 0) = false)/\
 ((Rf (TV.v (AV.bool false)))/\
 (((0:Nat) = 0)/\
 True)))
 ((((0:Int) <= ((i:Nat):Int))/\
 ((((i:Nat):Int):Int) < ((ByteArray.size s:Nat):Int)))/\
 (bcase (decide (((((UInt8.toNat (List.getD (Array.toList (ByteArray.data s)) (Int.toNat (↑i:Int)) 0)):Nat):Int):Int) > 126))
 (((okFrom s 0) = false)/\
 ((Rf (TV.v (AV.bool false)))/\
 (((0:Nat) = 0)/\
 True)))
 (∃ x'0:Nat,((((((x'0):Nat) <= (ByteArray.size s))/\
 ((okFrom s 0) = (okFrom s x'0)))/\
 (((LI.μ (li158 s) x'0):Nat) < (LI.μ (li158 s) i)))/\
 ((Rf (TV.v (AV.str (s))))/\
 (((TV.v (AV.int .i64 (IntKind.wrap .i64 (((i:Nat):Int) + 1)))) = (TV.v (AV.int .i64 (((x'0):Nat):Int))))/\
 (((0:Nat) = 0)/\
 True)))))))))
 (((okFrom s 0) = true)/\
 ((Rf (TV.v (AV.str (s))))/\
 (((0:Nat) = 0)/\
 True))))):=by kernel_rfl
def L158 (s:ByteArray):LHand:=fun _ Q a σ => atFS a σ ((li158 s).F 0) ((li158 s).FL 0) [] 0 /\
 ((okFrom s 0 = true -> Q (.exit 0) (frm [(0,.v (.str s))] []) (lst [] 0)) /\ (okFrom s 0 = false -> Q .ret (frm [(2,.v (.bool false))] []) (lst [] 0)))
theorem vc158 (B:Nat) (w0:World) (G:Nat -> AV) (s:ByteArray) (Q:AV -> State -> Prop):(bodyC (EV B w0 G) (H0 (EV B w0 G)) (L158 s) annA noHint 158 [.str s] noObj Q) =
 ((((Rf (TV.v (AV.str (s))))/\
 ((Rf (TV.v (AV.int .i64 0)))/\
 (((0:Nat) = 0)/\
 True)))/\
 ((((okFrom s 0) = true) -> (bcase (decide ((((ByteArray.size s:Nat):Int):Int) ≥ 1))
 (Q (AV.bool (decide ((((ByteArray.size s:Nat):Int):Int) <= 32))) (lst [] 0))
 (Q (AV.bool false) (lst [] 0))))/\
 (((okFrom s 0) = false) -> (Q (AV.bool false) (lst [] 0)))))):=by kernel_rfl
def C158:Contract:=fun args σ K => ∃ s,args = [.str s] /\ s.size <= 1099511627776 /\ K (.bool (nameR s)) σ.untok

def H133 (E:Env):Hand:=hnd E annA noHints [(158,C158)]
def nodeR (t:T):Bool :=
 if t.k = 1 then (decide (t.n ≥ 0) && (decide (t.n < 100000) && (bseq t.s ⟨⟨[]⟩⟩ && decide ((t.l.length:Int) = 0))))
 else if t.k = 2 then (decide (t.n ≥ -2147483647) && (decide (t.n <= 2147483647) && (bseq t.s ⟨⟨[]⟩⟩ && decide ((t.l.length:Int) = 0))))
 else if t.k = 3 then (decide (t.n = 0) && (nameR t.s && decide ((t.l.length:Int) = 0)))
 else if t.k = 4 then (decide (t.n = 0) && (decide ((t.s.size:Int) <= 255) && decide ((t.l.length:Int) = 0)))
 else if t.k = 5 then (decide (t.n = 0) && (nameR t.s && (decide ((t.l.length:Int) ≥ 1) && decide ((t.l.length:Int) <= 16))))
 else if t.k = 6 then (decide (t.n = 0) && (bseq t.s ⟨⟨[]⟩⟩ && decide ((t.l.length:Int) <= 64)))
 else false
theorem vc133 (B:Nat) (w0:World) (G:Nat -> AV) (t:T) (Q:AV -> State -> Prop):(bodyC (EV B w0 G) (H133 (EV B w0 G)) (fun _ _ _ _ => False) annA noHint 133 [.agg (tc t)] noObj Q) =
 ((bcase (((T.k t):Int) == 1)
 (bcase (decide (((T.n t):Int) ≥ 0))
 (bcase (decide (((T.n t):Int) < 100000))
 (bcase (bseq (T.s t) { data:=#[] })
 (Q (AV.bool (((((List.length (tcellL (T.l t))):Nat):Int):Int) == 0)) (noObj))
 (Q (AV.bool false) (noObj)))
 (Q (AV.bool false) (noObj)))
 (Q (AV.bool false) (noObj)))
 (bcase (((T.k t):Int) == 2)
 (bcase (decide (((T.n t):Int) ≥ (-2147483647)))
 (bcase (decide (((T.n t):Int) <= 2147483647))
 (bcase (bseq (T.s t) { data:=#[] })
 (Q (AV.bool (((((List.length (tcellL (T.l t))):Nat):Int):Int) == 0)) (noObj))
 (Q (AV.bool false) (noObj)))
 (Q (AV.bool false) (noObj)))
 (Q (AV.bool false) (noObj)))
 (bcase (((T.k t):Int) == 3)
 (bcase (((T.n t):Int) == 0)
 (∃ s0:ByteArray,(([(AV.str (T.s t))] = [(AV.str (s0))])/\
 (((ByteArray.size s0:Nat) <= 1099511627776)/\
 (bcase (nameR s0)
 (Q (AV.bool (((((List.length (tcellL (T.l t))):Nat):Int):Int) == 0)) (State.untok (noObj)))
 (Q (AV.bool false) (State.untok (noObj)))))))
 (Q (AV.bool false) (noObj)))
 (bcase (((T.k t):Int) == 4)
 (bcase (((T.n t):Int) == 0)
 (bcase (decide (((((ByteArray.size (T.s t)):Nat):Int):Int) <= 255))
 (Q (AV.bool (((((List.length (tcellL (T.l t))):Nat):Int):Int) == 0)) (noObj))
 (Q (AV.bool false) (noObj)))
 (Q (AV.bool false) (noObj)))
 (bcase (((T.k t):Int) == 5)
 (bcase (((T.n t):Int) == 0)
 (∃ s0:ByteArray,(([(AV.str (T.s t))] = [(AV.str (s0))])/\
 (((ByteArray.size s0:Nat) <= 1099511627776)/\
 (bcase (nameR s0)
 (bcase (decide (((((List.length (tcellL (T.l t))):Nat):Int):Int) ≥ 1))
 (Q (AV.bool (decide (((((List.length (tcellL (T.l t))):Nat):Int):Int) <= 16))) (State.untok (noObj)))
 (Q (AV.bool false) (State.untok (noObj))))
 (Q (AV.bool false) (State.untok (noObj)))))))
 (Q (AV.bool false) (noObj)))
 (bcase (((T.k t):Int) == 6)
 (bcase (((T.n t):Int) == 0)
 (bcase (bseq (T.s t) { data:=#[] })
 (Q (AV.bool (decide (((((List.length (tcellL (T.l t))):Nat):Int):Int) <= 64))) (noObj))
 (Q (AV.bool false) (noObj)))
 (Q (AV.bool false) (noObj)))
 (Q (AV.bool false) (noObj))))))))):=by kernel_rfl
def C133:Contract:=fun args σ K => ∃ t:T,args = [.agg (tc t)] /\ t.s.size <= 1099511627776 /\ K (.bool (nodeR t)) σ.untok

mutual
def nodesR:T -> Bool
 | .mk k n s l => nodeR (.mk k n s l) && nodesRL l
def nodesRL:List T -> Bool
 | [] => true
 | x :: l => nodesR x && nodesRL l
end
def C111 (N:Nat):Contract:=fun args σ K => ∃ t:T,args = [.agg (tc t)] /\ (t.bulk <= 1099511627776 /\ SizeOf.sizeOf t < N) /\ K (.bool (nodesR t)) σ.untok
def H111 (E:Env) (N:Nat):Hand:=hnd E annA noHints [(133,C133),(111,C111 N)]
def N111:FnHint:=fun id i => match Nat.beq id 6 && Nat.beq i 3 with
 | true => Hint.as (fun t:T => .vptr (tc t))
 | false => Hint.no
def li111 (t:T):LI Nat where
 F i:=[(1,.l 1 0),(3,.v (.int .i64 i))]
 FL _:=[(1,tc t)]
 L _:=[]
 m _:=0
 I i:=i <= t.l.length /\ nodesRL t.l = nodesRL (t.l.drop i)
 μ i:=t.l.length - i
 Ex _ e a σ:=match e with
  | .exit 0 => nodesRL t.l = true /\ atFS a σ [] [] [] 0
  | .ret => nodesRL t.l = false /\ atFS a σ [(2,.v (.bool false))] [] [] 0
  | _ => False
theorem fnLoops_111:fnLoops Tryz.prog 111 = [.loop (lbody Tryz.prog 111 0)]:=by kernel_rfl
theorem vc111l (B:Nat) (w0:World) (G:Nat -> AV) (N:Nat) (t:T) (i:Nat):(wpC (EV B w0 G) (H111 (EV B w0 G) N) (fun _ _ _ _ => False) (annA 111) N111 (lbody Tryz.prog 111 0) ((li111 t).post i) (frm ((li111 t).F i) ((li111 t).FL i)) (lst ((li111 t).L i) ((li111 t).m i))) =
 ((bcase (decide ((((i:Nat):Int):Int) < (((List.length (tcellL (T.l t))):Nat):Int)))
 ((((0:Int) <= ((i:Nat):Int))/\
 ((((i:Nat):Int):Int) < (((List.length (tcellL (T.l t))):Nat):Int)))/\
 (∃ x0:T,(((AV.vptr (AV.cells (List.getD (tcellL (T.l t)) (Int.toNat (↑i:Int)) AV.undef))) = (AV.vptr [(AV.int .i64 (T.k x0)),(AV.int .i64 (T.n x0)),(AV.str (T.s x0)),(AV.slice 4 (tcellL (T.l x0)) Cap.any)]))/\
 (∃ t1:T,(([(AV.agg [(AV.int .i64 (T.k x0)),(AV.int .i64 (T.n x0)),(AV.str (T.s x0)),(AV.slice 4 (tcellL (T.l x0)) Cap.any)])] = [(AV.agg [(AV.int .i64 (T.k t1)),(AV.int .i64 (T.n t1)),(AV.str (T.s t1)),(AV.slice 4 (tcellL (T.l t1)) Cap.any)])])/\
 ((((T.bulk t1:Nat) <= 1099511627776)/\
 ((SizeOf.sizeOf t1:Nat) < (N)))/\
 (bcase (!(nodesR t1))
 (((nodesRL (T.l t)) = false)/\
 ((Rf (TV.v (AV.bool false)))/\
 (((0:Nat) = 0)/\
 True)))
 (∃ x'2:Nat,((((((x'2):Nat) <= (List.length (T.l t)))/\
 ((nodesRL (T.l t)) = (nodesRL (List.drop x'2 (T.l t)))))/\
 (((LI.μ (li111 t) x'2):Nat) < (LI.μ (li111 t) i)))/\
 ((Rf (TV.l 1 0))/\
 (((TV.v (AV.int .i64 (IntKind.wrap .i64 (((i:Nat):Int) + 1)))) = (TV.v (AV.int .i64 (((x'2):Nat):Int))))/\
 ((Rf [(AV.int .i64 (T.k t)),(AV.int .i64 (T.n t)),(AV.str (T.s t)),(AV.slice 4 (tcellL (T.l t)) Cap.any)])/\
 (((0:Nat) = 0)/\
 True)))))))))))))
 (((nodesRL (T.l t)) = true)/\
 (((0:Nat) = 0)/\
 True)))):=by kernel_rfl
def L111 (t:T):LHand:=fun _ Q a σ => atFS a σ ((li111 t).F 0) ((li111 t).FL 0) [] 0 /\
 ((nodesRL t.l = true -> Q (.exit 0) (frm [] []) (lst [] 0)) /\ (nodesRL t.l = false -> Q .ret (frm [(2,.v (.bool false))] []) (lst [] 0)))
theorem vc111 (B:Nat) (w0:World) (G:Nat -> AV) (N:Nat) (t:T) (Q:AV -> State -> Prop):(bodyC (EV B w0 G) (H111 (EV B w0 G) N) (L111 t) annA noHint 111 [.agg (tc t)] noObj Q) =
 ((∃ t0:T,(([(AV.agg [(AV.int .i64 (T.k t)),(AV.int .i64 (T.n t)),(AV.str (T.s t)),(AV.slice 4 (tcellL (T.l t)) Cap.any)])] = [(AV.agg [(AV.int .i64 (T.k t0)),(AV.int .i64 (T.n t0)),(AV.str (T.s t0)),(AV.slice 4 (tcellL (T.l t0)) Cap.any)])])/\
 ((((ByteArray.size (T.s t0)):Nat) <= 1099511627776)/\
 (bcase (!(nodeR t0))
 (Q (AV.bool false) (State.untok (noObj)))
 (((Rf (TV.l 1 0))/\
 ((Rf (TV.v (AV.int .i64 0)))/\
 ((Rf [(AV.int .i64 (T.k t)),(AV.int .i64 (T.n t)),(AV.str (T.s t)),(AV.slice 4 (tcellL (T.l t)) Cap.any)])/\
 (((0:Nat) = 0)/\
 True))))/\
 ((((nodesRL (T.l t)) = true) -> (Q (AV.bool true) (lst [] 0)))/\
 (((nodesRL (T.l t)) = false) -> (Q (AV.bool false) (lst [] 0)))))))))):=by kernel_rfl

def C110 (N:Nat):Contract:=fun args σ K => ∃ t:T,args = [.agg (tc t)] /\ (t.bulk <= 1099511627776 /\ SizeOf.sizeOf t < N) /\ K (.tuple [.int .i64 t.size,.int .i64 t.deep]) σ.untok
def H110 (E:Env) (N:Nat):Hand:=hnd E annA noHints [(110,C110 N)]
def N110:FnHint:=fun id i => match Nat.beq id 6 && Nat.beq i 3 with
 | true => Hint.as (fun t:T => .vptr (tc t))
 | false => Hint.no
structure X110 where
 i:Nat
 n:Nat
 d:Nat
def li110 (t:T):LI X110 where
 F x:=[(1,.l 1 0),(4,.v (.int .i64 x.n)),(5,.v (.int .i64 x.d)),(6,.v (.int .i64 x.i))]
 FL _:=[(1,tc t)]
 L _:=[]
 m _:=0
 I x:=x.i <= t.l.length /\ x.n + sizeL (t.l.drop x.i) = t.size /\ max x.d (deepL (t.l.drop x.i)) = deepL t.l
 μ x:=t.l.length - x.i
 Ex _ e a σ:=match e with
  | .exit 0 => atFS a σ [(4,.v (.int .i64 t.size)),(5,.v (.int .i64 (deepL t.l)))] [] [] 0
  | _ => False
theorem fnLoops_110:fnLoops Tryz.prog 110 = [.loop (lbody Tryz.prog 110 0)]:=by kernel_rfl
theorem vc110l (B:Nat) (w0:World) (G:Nat -> AV) (N:Nat) (t:T) (x:X110):(wpC (EV B w0 G) (H110 (EV B w0 G) N) (fun _ _ _ _ => False) (annA 110) N110 (lbody Tryz.prog 110 0) ((li110 t).post x) (frm ((li110 t).F x) ((li110 t).FL x)) (lst ((li110 t).L x) ((li110 t).m x))) =
 ((bcase (decide ((((X110.i x:Nat):Int):Int) < (((List.length (tcellL (T.l t))):Nat):Int)))
 ((((0:Int) <= ((X110.i x:Nat):Int))/\
 ((((X110.i x:Nat):Int):Int) < (((List.length (tcellL (T.l t))):Nat):Int)))/\
 (∃ x0:T,(((AV.vptr (AV.cells (List.getD (tcellL (T.l t)) (Int.toNat (↑(X110.i x):Int)) AV.undef))) = (AV.vptr [(AV.int .i64 (T.k x0)),(AV.int .i64 (T.n x0)),(AV.str (T.s x0)),(AV.slice 4 (tcellL (T.l x0)) Cap.any)]))/\
 (∃ t1:T,(([(AV.agg [(AV.int .i64 (T.k x0)),(AV.int .i64 (T.n x0)),(AV.str (T.s x0)),(AV.slice 4 (tcellL (T.l x0)) Cap.any)])] = [(AV.agg [(AV.int .i64 (T.k t1)),(AV.int .i64 (T.n t1)),(AV.str (T.s t1)),(AV.slice 4 (tcellL (T.l t1)) Cap.any)])])/\
 ((((T.bulk t1:Nat) <= 1099511627776)/\
 ((SizeOf.sizeOf t1:Nat) < (N)))/\
 (∃ x'2:X110,(((((X110.i x'2:Nat) <= (List.length (T.l t)))/\
 (((((X110.n x'2) + (sizeL (List.drop (X110.i x'2) (T.l t)))):Nat) = (T.size t))/\
 (((Max.max (X110.d x'2) (deepL (List.drop (X110.i x'2) (T.l t)))):Nat) = (deepL (T.l t)))))/\
 (((LI.μ (li110 t) x'2):Nat) < (LI.μ (li110 t) x)))/\
 ((Rf (TV.l 1 0))/\
 (((TV.v (AV.int .i64 (IntKind.wrap .i64 (((X110.n x:Nat):Int) + ((T.size t1:Nat):Int))))) = (TV.v (AV.int .i64 ((X110.n x'2:Nat):Int))))/\
 (((TV.v (AV.int .i64 (if Bool.true = Bool.true then if (↑(T.deep t1):Int) > (↑(X110.d x):Int) then (↑(T.deep t1):Int) else (↑(X110.d x):Int) else if (↑(T.deep t1):Int) < (↑(X110.d x):Int) then (↑(T.deep t1):Int) else (↑(X110.d x):Int)))) = (TV.v (AV.int .i64 ((X110.d x'2:Nat):Int))))/\
 (((TV.v (AV.int .i64 (IntKind.wrap .i64 (((X110.i x:Nat):Int) + 1)))) = (TV.v (AV.int .i64 ((X110.i x'2:Nat):Int))))/\
 ((Rf [(AV.int .i64 (T.k t)),(AV.int .i64 (T.n t)),(AV.str (T.s t)),(AV.slice 4 (tcellL (T.l t)) Cap.any)])/\
 (((0:Nat) = 0)/\
 True))))))))))))))
 (((TV.v (AV.int .i64 ((X110.n x:Nat):Int))) = (TV.v (AV.int .i64 ((T.size t:Nat):Int))))/\
 (((TV.v (AV.int .i64 ((X110.d x:Nat):Int))) = (TV.v (AV.int .i64 (((deepL (T.l t)):Nat):Int))))/\
 (((0:Nat) = 0)/\
 True))))):=by kernel_rfl
def L110 (t:T):LHand:=fun _ Q a σ => (li110 t).I ⟨0,1,0⟩ /\ atFS a σ ((li110 t).F ⟨0,1,0⟩) ((li110 t).FL ⟨0,1,0⟩) [] 0 /\
 Q (.exit 0) (frm [(4,.v (.int .i64 t.size)),(5,.v (.int .i64 (deepL t.l)))] []) (lst [] 0)
theorem vc110 (B:Nat) (w0:World) (G:Nat -> AV) (N:Nat) (t:T) (Q:AV -> State -> Prop):(bodyC (EV B w0 G) (H110 (EV B w0 G) N) (L110 t) annA noHint 110 [.agg (tc t)] noObj Q) =
 (((((0:Nat) <= (List.length (T.l t)))/\
 ((((1 + (sizeL (List.drop 0 (T.l t)))):Nat) = (T.size t))/\
 (((Max.max 0 (deepL (List.drop 0 (T.l t)))):Nat) = (deepL (T.l t)))))/\
 (((Rf (TV.l 1 0))/\
 ((Rf (TV.v (AV.int .i64 1)))/\
 ((Rf (TV.v (AV.int .i64 0)))/\
 ((Rf (TV.v (AV.int .i64 0)))/\
 ((Rf [(AV.int .i64 (T.k t)),(AV.int .i64 (T.n t)),(AV.str (T.s t)),(AV.slice 4 (tcellL (T.l t)) Cap.any)])/\
 (((0:Nat) = 0)/\
 True))))))/\
 (Q (AV.tuple [(AV.int .i64 ((T.size t:Nat):Int)),(AV.int .i64 (IntKind.wrap .i64 ((((deepL (T.l t)):Nat):Int) + 1)))]) (lst [] 0))))):=by kernel_rfl

def H32 (E:Env) (N:Nat):Hand:=hnd E annA noHints [(110,C110 N),(111,C111 N)]
def isR (t:T):Bool:=decide ((t.size:Int) <= 4000) && (decide ((t.deep:Int) <= 600) && nodesR t)
theorem vc32 (B:Nat) (w0:World) (G:Nat -> AV) (N:Nat) (t:T) (Q:AV -> State -> Prop):(bodyC (EV B w0 G) (H32 (EV B w0 G) N) (fun _ _ _ _ => False) annA noHint 32 [.agg (tc t)] noObj Q) =
 ((∃ t0:T,(([(AV.agg [(AV.int .i64 (T.k t)),(AV.int .i64 (T.n t)),(AV.str (T.s t)),(AV.slice 4 (tcellL (T.l t)) Cap.any)])] = [(AV.agg [(AV.int .i64 (T.k t0)),(AV.int .i64 (T.n t0)),(AV.str (T.s t0)),(AV.slice 4 (tcellL (T.l t0)) Cap.any)])])/\
 ((((T.bulk t0:Nat) <= 1099511627776)/\
 ((SizeOf.sizeOf t0:Nat) < (N)))/\
 (bcase (decide ((((T.size t0:Nat):Int):Int) <= 4000))
 (bcase (decide ((((T.deep t0:Nat):Int):Int) <= 600))
 (∃ t1:T,(([(AV.agg [(AV.int .i64 (T.k t)),(AV.int .i64 (T.n t)),(AV.str (T.s t)),(AV.slice 4 (tcellL (T.l t)) Cap.any)])] = [(AV.agg [(AV.int .i64 (T.k t1)),(AV.int .i64 (T.n t1)),(AV.str (T.s t1)),(AV.slice 4 (tcellL (T.l t1)) Cap.any)])])/\
 ((((T.bulk t1:Nat) <= 1099511627776)/\
 ((SizeOf.sizeOf t1:Nat) < (N)))/\
 (bcase (!(nodesR t1))
 (Q (AV.int .i64 3) (State.untok (State.untok (noObj))))
 (Q (AV.int .i64 0) (State.untok (State.untok (noObj))))))))
 (Q (AV.int .i64 3) (State.untok (noObj))))
 (Q (AV.int .i64 3) (State.untok (noObj)))))))):=by kernel_rfl
def C32:Contract:=fun args σ K => ∃ t:T,args = [.agg (tc t)] /\ t.bulk <= 1099511627776 /\ K (.int .i64 (chkT t)) σ.untok
end Go.V
/- The reference's check of terms: it says what the program's says. -/
set_option linter.unusedSimpArgs false
set_option linter.unusedSectionVars false
namespace Go.V
open Go Go.Proofs

theorem decode_ascii {s:ByteArray} {i:Nat} (h:(s.get! i).toNat < 128):Utf8.decode s i = ((s.get! i).toNat,1):=by
 unfold Utf8.decode
 dsimp only
 exact if_pos h
theorem decode_high {s:ByteArray} {i:Nat} (h:¬ (s.get! i).toNat < 128):128 <= (Utf8.decode s i).1:=by
 unfold Utf8.decode
 dsimp only
 simp only [Nat.add_zero]
 rw [if_neg h]
 have e:128 <= Utf8.runeError:=by decide
 split
 ·split
  ·assumption
  ·exact e
 ·split
  ·split
   ·rename_i h1
    simp only [Bool.and_eq_true,decide_eq_true_eq] at h1
    omega
   ·exact e
  ·split
   ·split
    ·rename_i h1
     simp only [Bool.and_eq_true,decide_eq_true_eq] at h1
     omega
    ·exact e
   ·exact e

theorem get!_eq {s:ByteArray} {i:Nat} (h:i < s.size):s.get! i = s.data.toList[i]'(by have h':i < s.data.size:=h; simpa using h'):=by
 have h':i < s.data.size:=h
 cases s with
 | mk d =>
  show d[i]! = _
  rw [getElem!_pos d i h']
  simp
theorem okFrom_step {s:ByteArray} {i:Nat} (h:i < s.size):okFrom s i = ((decide (32 <= (s.get! i).toNat) && decide ((s.get! i).toNat <= 126)) && okFrom s (i + 1)):=by
 have h':i < s.data.toList.length:=by have h':i < s.data.size:=h; simpa using h'
 unfold okFrom
 rw [List.drop_eq_getElem_cons h',List.all_cons,get!_eq h]
theorem okFrom_end {s:ByteArray} {i:Nat} (h:s.size <= i):okFrom s i = true:=by
 have h':s.data.toList.length <= i:=by have h':s.data.size <= i:=h; simpa using h'
 unfold okFrom
 rw [List.drop_of_length_le h']; rfl

theorem firstBad_ok {s:ByteArray}:∀ (n i:Nat),s.size < i + n -> (firstBad s n i < 0 ↔ okFrom s i = true)
 | 0,i,h => by
  rw [firstBad,okFrom_end (by omega)]
  exact ⟨fun _ => rfl,fun _ => by omega⟩
 | n + 1,i,h => by
  unfold firstBad
  by_cases hi:i < s.size
  ·rw [if_pos hi,okFrom_step hi]
   by_cases h1:(s.get! i).toNat < 128
   ·rw [decode_ascii h1]
    dsimp only
    by_cases h2:((s.get! i).toNat:Int) < 32 \/ ((s.get! i).toNat:Int) > 126
    ·rw [if_pos h2]
     refine ⟨fun k => by omega,fun k => ?_⟩
     simp only [Bool.and_eq_true,decide_eq_true_eq] at k
     omega
    ·rw [if_neg h2,firstBad_ok n (i + 1) (by omega)]
     have h3:32 <= (s.get! i).toNat:=by omega
     have h4:(s.get! i).toNat <= 126:=by omega
     rw [decide_eq_true h3,decide_eq_true h4]; simp
   ·have h2:=decode_high h1
    rw [if_pos (.inr (by omega))]
    refine ⟨fun k => by omega,fun k => ?_⟩
    simp only [Bool.and_eq_true,decide_eq_true_eq] at k
    omega
  ·rw [if_neg hi,okFrom_end (by omega)]
   exact ⟨fun _ => rfl,fun _ => by omega⟩

theorem nameB_eq (s:ByteArray):nameB s = nameR s:=by
 unfold nameB nameR
 have:decide (bad s < 0) = okFrom s 0:=by
  have:=firstBad_ok (s:=s) (s.size + 1) 0 (by omega)
  cases h:okFrom s 0 with
  | true => exact decide_eq_true (this.2 h)
  | false => exact decide_eq_false fun k => by rw [this.1 k] at h; cases h
 rw [this,Bool.and_comm]

theorem formB_eq (t:T):formB t = nodeR t:=by
 unfold formB nodeR
 simp only [nameB_eq]
 repeat' split
 all_goals (first | rfl | (simp only [Bool.and_comm,Bool.and_left_comm]; done) | (cases bseq t.s ⟨⟨[]⟩⟩ <;> cases decide ((t.l.length:Int) = 0) <;> simp))

theorem nodesR_eq (t:T):nodesR t = (nodeR t && nodesRL t.l):=by cases t; rw [nodesR]; rfl

mutual
theorem count_is:∀ (t:T) (left deep:Int),0 <= left -> left <= 4000 -> 0 <= deep -> deep <= 600 ->
  (((t.size:Int) <= left /\ (t.deep:Int) <= deep /\ nodesR t = true -> count t left deep = t.size) /\ (¬ ((t.size:Int) <= left /\ (t.deep:Int) <= deep /\ nodesR t = true) -> count t left deep = left + 1))
 | .mk k n s l,left,deep,h0,h1,h2,h3 => by
  have hs:(T.mk k n s l).size = 1 + sizeL l:=T.size_eq _
  have hd:(T.mk k n s l).deep = 1 + deepL l:=T.deep_eq _
  have hn:nodesR (.mk k n s l) = (nodeR (.mk k n s l) && nodesRL l):=nodesR_eq _
  rw [count,hs,hd,hn,<-formB_eq]
  have hw:wr (left + 1) = left + 1:=wr_small (by omega) (by omega)
  by_cases hb:nodeB (.mk k n s l) left deep = true
  ·rw [if_pos hb]
   unfold nodeB at hb
   simp only [Bool.and_eq_true,Bool.not_eq_true',decide_eq_false_iff_not] at hb
   obtain ⟨b1,b2,b3⟩:=hb
   have ih:=countL_is l 1 left deep (by omega) (by omega) h1 (by omega) h3
   rw [b3]
   simp only [Bool.true_and]
   refine ⟨fun k => ?_,fun k => ?_⟩
   ·rw [ih.1 ⟨by omega,by omega,k.2.2⟩]; omega
   ·exact ih.2 fun j => k ⟨by omega,by omega,j.2.2⟩
  ·rw [if_neg hb,hw]
   refine ⟨fun k => ?_,fun _ => rfl⟩
   exfalso
   apply hb
   unfold nodeB
   simp only [Bool.and_eq_true] at k
   simp only [Bool.and_eq_true,Bool.not_eq_true',decide_eq_false_iff_not]
   exact ⟨by omega,by omega,k.2.2.1⟩
theorem countL_is:∀ (l:List T) (n left deep:Int),1 <= n -> n <= left -> left <= 4000 -> 1 <= deep -> deep <= 600 ->
  ((n + (sizeL l:Int) <= left /\ (deepL l:Int) <= deep - 1 /\ nodesRL l = true -> countL l n left deep = n + sizeL l) /\ (¬ (n + (sizeL l:Int) <= left /\ (deepL l:Int) <= deep - 1 /\ nodesRL l = true) -> countL l n left deep = left + 1))
 | [],n,left,deep,h0,h1,h2,h3,h4 => by
  rw [countL,sizeL,deepL,nodesRL]
  exact ⟨fun _ => by simp,fun k => absurd ⟨by simp; omega,by simp; omega,rfl⟩ k⟩
 | x :: l,n,left,deep,h0,h1,h2,h3,h4 => by
  have hw1:wr (left - n) = left - n:=wr_small (by omega) (by omega)
  have hw2:wr (deep - 1) = deep - 1:=wr_small (by omega) (by omega)
  have hw3:wr (left + 1) = left + 1:=wr_small (by omega) (by omega)
  have ih:=count_is x (left - n) (deep - 1) (by omega) (by omega) (by omega) (by omega)
  rw [countL,hw1,hw2,hw3,sizeL,deepL,nodesRL]
  by_cases hx:(x.size:Int) <= left - n /\ (x.deep:Int) <= deep - 1 /\ nodesR x = true
  ·rw [ih.1 hx]
   have hw4:wr (n + (x.size:Int)) = n + x.size:=wr_small (by omega) (by omega)
   rw [hw4,if_neg (by omega),hx.2.2]
   have ih2:=countL_is l (n + x.size) left deep (by omega) (by omega) h2 h3 h4
   simp only [Bool.true_and]
   refine ⟨fun k => ?_,fun k => ?_⟩
   ·rw [ih2.1 ⟨by omega,by omega,k.2.2⟩]; omega
   ·exact ih2.2 fun j => k ⟨by omega,by omega,j.2.2⟩
  ·rw [ih.2 hx]
   have hw4:wr (n + (left - n + 1)) = left + 1:=by rw [show n + (left - n + 1) = left + 1 by omega]; exact hw3
   rw [hw4,if_pos (by omega)]
   refine ⟨fun k => ?_,fun _ => rfl⟩
   exfalso
   apply hx
   simp only [Bool.and_eq_true] at k
   exact ⟨by omega,by omega,k.2.2.1⟩
end

theorem chkT_isR (t:T):chkT t = if isR t = true then 0 else 3:=by
 have:=count_is t 4000 600 (by omega) (by omega) (by omega) (by omega)
 unfold chkT isR
 by_cases h:(t.size:Int) <= 4000 /\ (t.deep:Int) <= 600 /\ nodesR t = true
 ·rw [this.1 h,if_neg (by omega),if_pos (by simp only [Bool.and_eq_true,decide_eq_true_eq]; exact h)]
 ·rw [this.2 h,if_pos (by omega),if_neg (by simp only [Bool.and_eq_true,decide_eq_true_eq]; exact h)]
end Go.V
/- The reference's check of terms: contracts. -/
namespace Go.V
open Go Go.Proofs

theorem getD_byte {s:ByteArray} {i:Nat} (h:i < s.size):List.getD (Array.toList (ByteArray.data s)) i 0 = s.get! i:=by
 have h':i < s.data.toList.length:=by have h':i < s.data.size:=h; simpa using h'
 rw [get!_eq h,List.getD,List.getElem?_eq_getElem h']; rfl

section
variable {B:Nat} {w0:World} {G:Nat -> AV}
theorem loop158 {s:ByteArray} (hs:s.size <= 1099511627776) (Q:Post) (a:AAct) (σ:State) (h:L158 s (.loop (lbody Tryz.prog 158 0)) Q a σ) :
  AWp (EV B w0 G) none (fnTmps Tryz.prog 158) (.loop (lbody Tryz.prog 158 0)) Q a σ:=by
 obtain ⟨h1,h2,h3⟩:=h
 refine awp_loopE (li158 s) (x0:=0) (fun i hI => body_wp (EV_mixed B w0 G) H0_ok (by kernel_rfl) (by kernel_rfl) ((vc158l B w0 G s i).mpr ?_)) (fun z hI e a σ hne k => ?_) ⟨Nat.zero_le _,rfl⟩ h1
 ·obtain ⟨hi,hc⟩:=hI
  refine bcase_of (fun hb => ?_) (fun hb => ?_)
  ·have hb:i < s.size:=by simpa using hb
   have hg:List.getD (Array.toList (ByteArray.data s)) (Int.toNat (i:Int)) 0 = s.get! i:=by rw [Int.toNat_natCast]; exact getD_byte hb
   rw [hg]
   rw [okFrom_step hb] at hc
   refine ⟨⟨by omega,by omega⟩,bcase_of (fun h4 => ?_) (fun h4 => ⟨⟨by omega,by omega⟩,bcase_of (fun h5 => ?_) (fun h5 => ?_)⟩)⟩
   ·have h4:(((s.get! i).toNat:Int)) < 32:=of_decide_eq_true h4
    rw [decide_eq_false (by omega)] at hc
    exact ⟨by rw [hc]; rfl,rfl,rfl,trivial⟩
   ·have h5:(((s.get! i).toNat:Int)) > 126:=of_decide_eq_true h5
    rw [decide_eq_false (p:=(s.get! i).toNat <= 126) (by omega)] at hc
    exact ⟨by rw [hc]; simp,rfl,rfl,trivial⟩
   ·have h4:¬ (((s.get! i).toNat:Int)) < 32:=of_decide_eq_false h4
    have h5:¬ (((s.get! i).toNat:Int)) > 126:=of_decide_eq_false h5
    rw [decide_eq_true (by omega),decide_eq_true (by omega)] at hc
    exact ⟨i + 1,⟨⟨hb,by rw [hc]; simp⟩,show s.size - (i + 1) < s.size - i by omega⟩,rfl,by
     have:IntKind.wrap .i64 ((i:Int) + 1) = ((i + 1:Nat):Int):=by rw [wr_small (by omega) (by omega)]; omega
     rw [this],rfl,trivial⟩
  ·have hb:¬ i < s.size:=by simpa using hb
   exact ⟨by rw [hc,okFrom_end (by omega)],rfl,rfl,trivial⟩
 ·cases e with
  | exit id =>
   cases id with
   | zero => exact exit_at (F:=[(0,.v (.str s))]) (FL:=[]) (L:=[]) (m:=0) k.2 (h2 k.1)
   | succ id => exact k.elim
  | ret => exact exit_at (F:=[(2,.v (.bool false))]) (FL:=[]) (L:=[]) (m:=0) k.2 (h3 k.1)
  | normal => exact absurd rfl hne
  | _ => exact k.elim

variable (hG:∀ i,NoId (G i))
include hG
theorem c158_ok:ContractOk (EV B w0 G) 158 C158:=by
 rintro args σ Q ⟨s,rfl,hs,hQ⟩
 refine pure_of hG (fun v hv => ?_) (.bool _) (fun Q hQ => ?_) hQ
 ·simp only [List.mem_cons,List.not_mem_nil,or_false] at hv
  subst hv
  exact .str _
 refine bodyC_ok (EV_mixed B w0 G) H0_ok (fun l hl _ Q a σ k => ?_) ((vc158 B w0 G s Q).mpr ?_)
 ·change l ∈ fnLoops Tryz.prog 158 at hl
  rw [fnLoops_158] at hl
  simp only [List.mem_cons,List.not_mem_nil,or_false] at hl
  subst hl
  exact loop158 hs Q a σ k
 ·refine ⟨⟨rfl,rfl,rfl,trivial⟩,fun h => bcase_of (fun h1 => ?_) (fun h1 => ?_),fun h => ?_⟩
  ·have:=hQ (lst [] 0)
   unfold nameR at this
   rw [h,h1] at this; exact this
  ·have:=hQ (lst [] 0)
   unfold nameR at this
   rw [h,h1] at this; exact this
  ·have:=hQ (lst [] 0)
   unfold nameR at this
   rw [h] at this; exact this

theorem c133_ok:ContractOk (EV B w0 G) 133 C133:=by
 rintro args σ Q ⟨t,rfl,hs,hQ⟩
 have hH:HOk1 (EV B w0 G) (H133 (EV B w0 G)):=hnd_ok (EV_mixed B w0 G) (contracts_cons (c158_ok hG) contracts_nil)
 refine pure_of hG (fun v hv => ?_) (.bool _) (fun Q hQ => ?_) hQ
 ·simp only [List.mem_cons,List.not_mem_nil,or_false] at hv
  subst hv
  exact agg_tc_noId t
 refine bodyC_ok (EV_mixed B w0 G) hH (fun l hl _ Q a σ k => k.elim) ((vc133 B w0 G t Q).mpr ?_)
 have hl:(tcellL t.l).length = t.l.length:=tcellL_length _
 rw [hl]
 unfold nodeR at hQ
 have e0:∀ n:Int,((n == 0) = decide (n = 0)):=fun n => rfl
 refine bcase_of (fun h1 => ?_) (fun h1 => ?_)
 ·have h1:t.k = 1:=by simpa using h1
  rw [if_pos h1] at hQ
  refine bcase_of (fun c1 => bcase_of (fun c2 => bcase_of (fun c3 => ?_) (fun c3 => ?_)) (fun c2 => ?_)) (fun c1 => ?_)
  ·rw [c1,c2,c3] at hQ; exact hQ _
  ·rw [c1,c2,c3] at hQ; exact hQ _
  ·rw [c1,c2] at hQ; exact hQ _
  ·rw [c1] at hQ; exact hQ _
 have h1:¬ t.k = 1:=by simpa using h1
 rw [if_neg h1] at hQ
 refine bcase_of (fun h2 => ?_) (fun h2 => ?_)
 ·have h2:t.k = 2:=by simpa using h2
  rw [if_pos h2] at hQ
  refine bcase_of (fun c1 => bcase_of (fun c2 => bcase_of (fun c3 => ?_) (fun c3 => ?_)) (fun c2 => ?_)) (fun c1 => ?_)
  ·rw [c1,c2,c3] at hQ; exact hQ _
  ·rw [c1,c2,c3] at hQ; exact hQ _
  ·rw [c1,c2] at hQ; exact hQ _
  ·rw [c1] at hQ; exact hQ _
 have h2:¬ t.k = 2:=by simpa using h2
 rw [if_neg h2] at hQ
 refine bcase_of (fun h3 => ?_) (fun h3 => ?_)
 ·have h3:t.k = 3:=by simpa using h3
  rw [if_pos h3] at hQ
  refine bcase_of (fun c1 => ⟨t.s,rfl,hs,bcase_of (fun c2 => ?_) (fun c2 => ?_)⟩) (fun c1 => ?_)
  ·rw [<-e0,c1,c2] at hQ; exact hQ _
  ·rw [<-e0,c1,c2] at hQ; exact hQ _
  ·rw [<-e0,c1] at hQ; exact hQ _
 have h3:¬ t.k = 3:=by simpa using h3
 rw [if_neg h3] at hQ
 refine bcase_of (fun h4 => ?_) (fun h4 => ?_)
 ·have h4:t.k = 4:=by simpa using h4
  rw [if_pos h4] at hQ
  refine bcase_of (fun c1 => bcase_of (fun c2 => ?_) (fun c2 => ?_)) (fun c1 => ?_)
  ·rw [<-e0,c1,c2] at hQ; exact hQ _
  ·rw [<-e0,c1,c2] at hQ; exact hQ _
  ·rw [<-e0,c1] at hQ; exact hQ _
 have h4:¬ t.k = 4:=by simpa using h4
 rw [if_neg h4] at hQ
 refine bcase_of (fun h5 => ?_) (fun h5 => ?_)
 ·have h5:t.k = 5:=by simpa using h5
  rw [if_pos h5] at hQ
  refine bcase_of (fun c1 => ⟨t.s,rfl,hs,bcase_of (fun c2 => bcase_of (fun c3 => ?_) (fun c3 => ?_)) (fun c2 => ?_)⟩) (fun c1 => ?_)
  ·rw [<-e0,c1,c2,c3] at hQ; exact hQ _
  ·rw [<-e0,c1,c2,c3] at hQ; exact hQ _
  ·rw [<-e0,c1,c2] at hQ; exact hQ _
  ·rw [<-e0,c1] at hQ; exact hQ _
 have h5:¬ t.k = 5:=by simpa using h5
 rw [if_neg h5] at hQ
 refine bcase_of (fun h6 => ?_) (fun h6 => ?_)
 ·have h6:t.k = 6:=by simpa using h6
  rw [if_pos h6] at hQ
  refine bcase_of (fun c1 => bcase_of (fun c2 => ?_) (fun c2 => ?_)) (fun c1 => ?_)
  ·rw [<-e0,c1,c2] at hQ; exact hQ _
  ·rw [<-e0,c1,c2] at hQ; exact hQ _
  ·rw [<-e0,c1] at hQ; exact hQ _
 have h6:¬ t.k = 6:=by simpa using h6
 rw [if_neg h6] at hQ
 exact hQ _

omit hG in
theorem loop111 {N:Nat} {t:T} (hb:t.bulk <= 1099511627776) (hN:∀ x ∈ t.l,SizeOf.sizeOf x < N) (hH:HOk1 (EV B w0 G) (H111 (EV B w0 G) N)) (Q:Post) (a:AAct) (σ:State) (h:L111 t (.loop (lbody Tryz.prog 111 0)) Q a σ) :
  AWp (EV B w0 G) none (fnTmps Tryz.prog 111) (.loop (lbody Tryz.prog 111 0)) Q a σ:=by
 obtain ⟨h1,h2,h3⟩:=h
 have hlen:t.l.length < 1099511627776:=by have:=t.len_size; have:=t.size_bulk; omega
 refine awp_loopE (li111 t) (x0:=0) (fun i hI => body_wp (EV_mixed B w0 G) hH (by kernel_rfl) (by kernel_rfl) ((vc111l B w0 G N t i).mpr ?_)) (fun z hI e a σ hne k => ?_) ⟨Nat.zero_le _,rfl⟩ h1
 ·obtain ⟨hi,hc⟩:=hI
  rw [tcellL_length]
  refine bcase_of (fun hb2 => ?_) (fun hb2 => ?_)
  ·have hb2:i < t.l.length:=by simpa using hb2
   have hx:t.l[i].bulk <= 1099511627776:=by
    have:=bulkL_mem (List.getElem_mem hb2)
    have:=t.bulk_eq
    omega
   rw [List.drop_eq_getElem_cons hb2,nodesRL] at hc
   refine ⟨⟨by omega,by omega⟩,t.l[i],by rw [Int.toNat_natCast]; exact tcellL_get hb2,t.l[i],rfl,⟨hx,hN _ (List.getElem_mem hb2)⟩,bcase_of (fun h4 => ?_) (fun h4 => ?_)⟩
   ·have h4:nodesR t.l[i] = false:=by simpa using h4
    rw [h4] at hc
    exact ⟨by rw [hc]; rfl,rfl,rfl,trivial⟩
   ·have h4:nodesR t.l[i] = true:=by simpa using h4
    rw [h4] at hc
    exact ⟨i + 1,⟨⟨hb2,by rw [hc]; rfl⟩,show t.l.length - (i + 1) < t.l.length - i by omega⟩,rfl,by
     have:IntKind.wrap .i64 ((i:Int) + 1) = ((i + 1:Nat):Int):=by rw [wr_small (by omega) (by omega)]; omega
     rw [this],rfl,rfl,trivial⟩
  ·have hb2:¬ i < t.l.length:=by simpa using hb2
   rw [List.drop_of_length_le (by omega)] at hc
   exact ⟨by rw [hc]; rfl,rfl,trivial⟩
 ·cases e with
  | exit id =>
   cases id with
   | zero => exact exit_at (F:=[]) (FL:=[]) (L:=[]) (m:=0) k.2 (h2 k.1)
   | succ id => exact k.elim
  | ret => exact exit_at (F:=[(2,.v (.bool false))]) (FL:=[]) (L:=[]) (m:=0) k.2 (h3 k.1)
  | normal => exact absurd rfl hne
  | _ => exact k.elim

theorem c111_ok:∀ N,ContractOk (EV B w0 G) 111 (C111 N)
 | 0 => by
  rintro args σ Q ⟨t,rfl,hN,hQ⟩
  omega
 | N + 1 => by
  rintro args σ Q ⟨t,rfl,⟨hb,hN⟩,hQ⟩
  have hH:HOk1 (EV B w0 G) (H111 (EV B w0 G) N):=hnd_ok (EV_mixed B w0 G) (contracts_cons (c133_ok hG) (contracts_cons (c111_ok N) contracts_nil))
  refine pure_of hG (fun v hv => ?_) (.bool _) (fun Q hQ => ?_) hQ
  ·simp only [List.mem_cons,List.not_mem_nil,or_false] at hv
   subst hv
   exact agg_tc_noId t
  refine bodyC_ok (EV_mixed B w0 G) hH (fun l hl _ Q a σ k => ?_) ((vc111 B w0 G N t Q).mpr ?_)
  ·change l ∈ fnLoops Tryz.prog 111 at hl
   rw [fnLoops_111] at hl
   simp only [List.mem_cons,List.not_mem_nil,or_false] at hl
   subst hl
   exact loop111 hb (fun x hx => by have:=T.sizeOf_mem hx; omega) hH Q a σ k
  ·have hs:t.s.size <= 1099511627776:=by have:=t.bulk_eq; omega
   rw [nodesR_eq] at hQ
   refine ⟨t,rfl,hs,bcase_of (fun h => ?_) (fun h => ⟨⟨rfl,rfl,rfl,rfl,trivial⟩,fun h2 => ?_,fun h2 => ?_⟩)⟩
   ·have h:nodeR t = false:=by simpa using h
    rw [h] at hQ; exact hQ _
   ·have h:nodeR t = true:=by simpa using h
    rw [h,h2] at hQ; exact hQ _
   ·have h:nodeR t = true:=by simpa using h
    rw [h,h2] at hQ; exact hQ _

omit hG in
theorem loop110 {N:Nat} {t:T} (hb:t.bulk <= 1099511627776) (hN:∀ x ∈ t.l,SizeOf.sizeOf x < N) (hH:HOk1 (EV B w0 G) (H110 (EV B w0 G) N)) (Q:Post) (a:AAct) (σ:State) (h:L110 t (.loop (lbody Tryz.prog 110 0)) Q a σ) :
  AWp (EV B w0 G) none (fnTmps Tryz.prog 110) (.loop (lbody Tryz.prog 110 0)) Q a σ:=by
 obtain ⟨h0,h1,h2⟩:=h
 have hsz:=t.size_bulk
 have hlen:=t.len_size
 refine awp_loopE (li110 t) (x0:=⟨0,1,0⟩) (fun x hI => body_wp (EV_mixed B w0 G) hH (by kernel_rfl) (by kernel_rfl) ((vc110l B w0 G N t x).mpr ?_)) (fun z hI e a σ hne k => ?_) h0 h1
 ·obtain ⟨i,n,d⟩:=x
  obtain ⟨hi,hn,hd⟩:=hI
  dsimp only at hi hn hd ⊢
  rw [tcellL_length]
  refine bcase_of (fun hb2 => ?_) (fun hb2 => ?_)
  ·have hb2:i < t.l.length:=by simpa using hb2
   have hx:t.l[i].bulk <= 1099511627776:=by
    have:=bulkL_mem (List.getElem_mem hb2)
    have:=t.bulk_eq
    omega
   rw [List.drop_eq_getElem_cons hb2,sizeL] at hn
   rw [List.drop_eq_getElem_cons hb2,deepL] at hd
   refine ⟨⟨by omega,by omega⟩,t.l[i],by rw [Int.toNat_natCast]; exact tcellL_get hb2,t.l[i],rfl,⟨hx,hN _ (List.getElem_mem hb2)⟩,⟨i + 1,n + t.l[i].size,max d t.l[i].deep⟩,⟨⟨hb2,show n + t.l[i].size + sizeL (t.l.drop (i + 1)) = t.size by omega,show max (max d t.l[i].deep) (deepL (t.l.drop (i + 1))) = deepL t.l by omega⟩,show t.l.length - (i + 1) < t.l.length - i by omega⟩,rfl,?_,?_,?_,rfl,rfl,trivial⟩
   ·have:IntKind.wrap .i64 ((n:Int) + (t.l[i].size:Int)) = ((n + t.l[i].size:Nat):Int):=by rw [wr_small (by omega) (by omega)]; omega
    rw [this]
   ·have:(if Bool.true = Bool.true then if ((T.deep t.l[i]:Nat):Int) > (d:Int) then (T.deep t.l[i]:Int) else (d:Int) else if ((T.deep t.l[i]:Nat):Int) < (d:Int) then (T.deep t.l[i]:Int) else (d:Int)) = ((max d t.l[i].deep:Nat):Int):=by
     rw [if_pos rfl]
     split <;> omega
    rw [this]
   ·have:IntKind.wrap .i64 ((i:Int) + 1) = ((i + 1:Nat):Int):=by rw [wr_small (by omega) (by omega)]; omega
    rw [this]
  ·have hb2:¬ i < t.l.length:=by simpa using hb2
   rw [List.drop_of_length_le (by omega),sizeL] at hn
   rw [List.drop_of_length_le (by omega),deepL] at hd
   have hn:n = t.size:=by omega
   have hd:d = deepL t.l:=by omega
   exact ⟨by rw [hn],by rw [hd],rfl,trivial⟩
 ·cases e with
  | exit id =>
   cases id with
   | zero => exact exit_at (F:=[(4,.v (.int .i64 t.size)),(5,.v (.int .i64 (deepL t.l)))]) (FL:=[]) (L:=[]) (m:=0) k h2
   | succ id => exact k.elim
  | normal => exact absurd rfl hne
  | _ => exact k.elim

theorem c110_ok:∀ N,ContractOk (EV B w0 G) 110 (C110 N)
 | 0 => by
  rintro args σ Q ⟨t,rfl,hN,hQ⟩
  omega
 | N + 1 => by
  rintro args σ Q ⟨t,rfl,⟨hb,hN⟩,hQ⟩
  have hH:HOk1 (EV B w0 G) (H110 (EV B w0 G) N):=hnd_ok (EV_mixed B w0 G) (contracts_cons (c110_ok N) contracts_nil)
  refine pure_of hG (fun v hv => ?_) (.tuple (by simp; exact ⟨.int _ _,.int _ _⟩)) (fun Q hQ => ?_) hQ
  ·simp only [List.mem_cons,List.not_mem_nil,or_false] at hv
   subst hv
   exact agg_tc_noId t
  refine bodyC_ok (EV_mixed B w0 G) hH (fun l hl _ Q a σ k => ?_) ((vc110 B w0 G N t Q).mpr ?_)
  ·change l ∈ fnLoops Tryz.prog 110 at hl
   rw [fnLoops_110] at hl
   simp only [List.mem_cons,List.not_mem_nil,or_false] at hl
   subst hl
   exact loop110 hb (fun x hx => by have:=T.sizeOf_mem hx; omega) hH Q a σ k
  ·have h1:=t.size_eq
   have h2:=t.deep_eq
   have h3:=t.size_bulk
   have h4:=t.deep_size
   refine ⟨⟨Nat.zero_le _,by rw [List.drop_zero]; omega,by rw [List.drop_zero]; omega⟩,⟨rfl,rfl,rfl,rfl,rfl,rfl,trivial⟩,?_⟩
   have:IntKind.wrap .i64 (((deepL t.l:Nat):Int) + 1) = ((t.deep:Nat):Int):=by rw [wr_small (by omega) (by omega)]; omega
   rw [this]
   exact hQ _

theorem c32_ok:ContractOk (EV B w0 G) 32 C32:=by
 rintro args σ Q ⟨t,rfl,hb,hQ⟩
 have hH:HOk1 (EV B w0 G) (H32 (EV B w0 G) (SizeOf.sizeOf t + 1)):=hnd_ok (EV_mixed B w0 G) (contracts_cons (c110_ok hG _) (contracts_cons (c111_ok hG _) contracts_nil))
 refine pure_of hG (fun v hv => ?_) (.int _ _) (fun Q hQ => ?_) hQ
 ·simp only [List.mem_cons,List.not_mem_nil,or_false] at hv
  subst hv
  exact agg_tc_noId t
 refine bodyC_ok (EV_mixed B w0 G) hH (fun l hl _ Q a σ k => k.elim) ((vc32 B w0 G (SizeOf.sizeOf t + 1) t Q).mpr ?_)
 rw [chkT_isR] at hQ
 unfold isR at hQ
 refine ⟨t,rfl,⟨hb,Nat.lt_succ_self _⟩,bcase_of (fun h1 => bcase_of (fun h2 => ⟨t,rfl,⟨hb,Nat.lt_succ_self _⟩,bcase_of (fun h3 => ?_) (fun h3 => ?_)⟩) (fun h2 => ?_)) (fun h1 => ?_)⟩
 ·have h3:nodesR t = false:=by simpa using h3
  rw [h1,h2,h3] at hQ; exact hQ _
 ·have h3:nodesR t = true:=by simpa using h3
  rw [h1,h2,h3] at hQ; exact hQ _
 ·rw [h1,h2] at hQ; exact hQ _
 ·rw [h1] at hQ; exact hQ _
end
end Go.V
