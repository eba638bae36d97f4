/- A part of the proof of the statement S8 (texts brought together and shortened by a program of this work). -/
import Derived.Test.YtgnjidopnplbbaaGreatDoorQ13
import Derived.Test.YtgnjidopnplbbaaGreatDoorQ11
set_option maxRecDepth 1000000
set_option linter.unusedVariables false
namespace Go.V
open Go Go.Proofs

def zNR (s:ByteArray) (i:Nat):Bool:=(s.data.toList.drop i).all fun b=>decide (32<=b.toNat)&&decide (b.toNat<=126)
def zNS (s:ByteArray):Bool:=zNR s 0&&(decide ((s.size:Int) ≥ 1)&&decide ((s.size:Int)<=32))
def zNT (s:ByteArray):LI Nat where
 F i:=[(0,.v (.str s)),(3,.v (iZ i))]
 FL _:=[]
 L _:=[]
 m _:=0
 I i:=i<=s.size/\zNR s 0=zNR s i
 μ i:=s.size - i
 Ex _ e a σ:=match e with
  | .exit 0=>zNR s 0=true/\zJQ a σ [(0,.v (.str s))] [] [] 0
  | .ret=>zNR s 0=false/\zJQ a σ [(2,.v (.bool false))] [] [] 0
  | _=>False
theorem zNU:zJ7 Tryz.prog 158=[.loop (zJU Tryz.prog 158 0)]:=by kernel_rfl
theorem vc158l (B:Nat) (w0:World) (G:Nat->AV) (s:ByteArray) (i:Nat):(wpC (EV B w0 G) (H0 (EV B w0 G)) (fun _ _ _ _=>False) (zHI 158) (symAt [(4,2),(4,7)]) (zJU Tryz.prog 158 0) ((zNT s).post i) (frm ((zNT s).F i) ((zNT s).FL i)) (lst ((zNT s).L i) ((zNT s).m i))) =
 (bcase (decide ((i:Int)<(ByteArray.size s:Int)))
 (((0:Int)<=(i:Int)/\
 (i:Int)<(ByteArray.size s:Int))/\
 bcase (decide (((UInt8.toNat (List.getD (Array.toList (ByteArray.data s)) (Int.toNat (↑i:Int)) 0):Int):Int)<32))
 (zNR s 0=false/\
 Rf (TV.v (AV.bool false))/\
 (0:Nat)=0/\
 True)
 (((0:Int)<=(i:Int)/\
 (i:Int)<(ByteArray.size s:Int))/\
 bcase (decide (((UInt8.toNat (List.getD (Array.toList (ByteArray.data s)) (Int.toNat (↑i:Int)) 0):Int):Int) > 126))
 (zNR s 0=false/\
 Rf (TV.v (AV.bool false))/\
 (0:Nat)=0/\
 True)
 (∃ x'0:Nat,((x'0<=ByteArray.size s/\
 (zNR s 0)=zNR s x'0)/\
 ((LI.μ (zNT s) x'0):Nat)<LI.μ (zNT s) i)/\
 Rf (TV.v (AV.str s))/\
 (TV.v (iZ (IntKind.wrap .i64 ((i:Int)+1))))=TV.v (iZ (x'0:Int))/\
 (0:Nat)=0/\
 True)))
 (zNR s 0=true/\
 Rf (TV.v (AV.str s))/\
 (0:Nat)=0/\
 True)):=by kernel_rfl
def L158 (s:ByteArray):zFV:=fun _ Q a σ=>zJQ a σ ((zNT s).F 0) ((zNT s).FL 0) [] 0 /\
 ((zNR s 0=true->Q (.exit 0) (frm [(0,.v (.str s))] []) (lst [] 0))/\(zNR s 0=false->Q .ret (frm [(2,.v (.bool false))] []) (lst [] 0)))
theorem vc158 (B:Nat) (w0:World) (G:Nat->AV) (s:ByteArray) (Q:AV->zA6->Prop):(zJ6 (EV B w0 G) (H0 (EV B w0 G)) (L158 s) zHI zMV 158 [.str s] zJZ Q) =
 ((Rf (TV.v (AV.str s))/\
 Rf (TV.v (iZ 0))/\
 (0:Nat)=0/\
 True)/\
 ((zNR s 0=true)->(bcase (decide ((ByteArray.size s:Int) ≥ 1))
 (Q (AV.bool (decide ((ByteArray.size s:Int)<=32))) (lst [] 0))
 (Q (AV.bool false) (lst [] 0))))/\
 ((zNR s 0=false)->(Q (AV.bool false) (lst [] 0)))):=by kernel_rfl
def C158:zJC:=fun args σ K=>∃ s,args=[.str s]/\s.size<=1099511627776/\K (.bool (zNS s)) σ.untok

def H133 (E:Env):zDY:=hnd E zHI zMU [(158,C158)]
def zNV (t:T):Bool :=
 if t.k=1 then (decide (t.n ≥ 0)&&(decide (t.n<100000)&&(zAI t.s ⟨⟨[]⟩⟩&&decide ((t.l.length:Int)=0))))
 else if t.k=2 then (decide (t.n ≥ -2147483647)&&(decide (t.n<=2147483647)&&(zAI t.s ⟨⟨[]⟩⟩&&decide ((t.l.length:Int)=0))))
 else if t.k=3 then (decide (t.n=0)&&(zNS t.s&&decide ((t.l.length:Int)=0)))
 else if t.k=4 then (decide (t.n=0)&&(decide ((t.s.size:Int)<=255)&&decide ((t.l.length:Int)=0)))
 else if t.k=5 then (decide (t.n=0)&&(zNS t.s&&(decide ((t.l.length:Int) ≥ 1)&&decide ((t.l.length:Int)<=16))))
 else if t.k=6 then (decide (t.n=0)&&(zAI t.s ⟨⟨[]⟩⟩&&decide ((t.l.length:Int)<=64)))
 else false
theorem vc133 (B:Nat) (w0:World) (G:Nat->AV) (t:T) (Q:AV->zA6->Prop):(zJ6 (EV B w0 G) (H133 (EV B w0 G)) (fun _ _ _ _=>False) zHI zMV 133 [.agg (tc t)] zJZ Q) =
 (bcase (((T.k t):Int)==1)
 (bcase (decide (((T.n t):Int) ≥ 0))
 (bcase (decide (((T.n t):Int)<100000))
 (bcase (zAI (T.s t) { data:=#[] })
 (Q (AV.bool ((List.length (tcellL (T.l t)):Int)==0)) zJZ)
 (Q (AV.bool false) zJZ))
 (Q (AV.bool false) zJZ))
 (Q (AV.bool false) zJZ))
 (bcase (((T.k t):Int)==2)
 (bcase (decide (((T.n t):Int) ≥ (-2147483647)))
 (bcase (decide (((T.n t):Int)<=2147483647))
 (bcase (zAI (T.s t) { data:=#[] })
 (Q (AV.bool ((List.length (tcellL (T.l t)):Int)==0)) zJZ)
 (Q (AV.bool false) zJZ))
 (Q (AV.bool false) zJZ))
 (Q (AV.bool false) zJZ))
 (bcase (((T.k t):Int)==3)
 (bcase (((T.n t):Int)==0)
 (∃ s0:ByteArray,[AV.str (T.s t)]=[AV.str s0]/\
 ByteArray.size s0<=1099511627776/\
 bcase (zNS s0)
 (Q (AV.bool ((List.length (tcellL (T.l t)):Int)==0)) (Ut zJZ))
 (Q (AV.bool false) (Ut zJZ)))
 (Q (AV.bool false) zJZ))
 (bcase (((T.k t):Int)==4)
 (bcase (((T.n t):Int)==0)
 (bcase (decide ((ByteArray.size (T.s t):Int)<=255))
 (Q (AV.bool ((List.length (tcellL (T.l t)):Int)==0)) zJZ)
 (Q (AV.bool false) zJZ))
 (Q (AV.bool false) zJZ))
 (bcase (((T.k t):Int)==5)
 (bcase (((T.n t):Int)==0)
 (∃ s0:ByteArray,[AV.str (T.s t)]=[AV.str s0]/\
 ByteArray.size s0<=1099511627776/\
 bcase (zNS s0)
 (bcase (decide ((List.length (tcellL (T.l t)):Int) ≥ 1))
 (Q (AV.bool (decide ((List.length (tcellL (T.l t)):Int)<=16))) (Ut zJZ))
 (Q (AV.bool false) (Ut zJZ)))
 (Q (AV.bool false) (Ut zJZ)))
 (Q (AV.bool false) zJZ))
 (bcase (((T.k t):Int)==6)
 (bcase (((T.n t):Int)==0)
 (bcase (zAI (T.s t) { data:=#[] })
 (Q (AV.bool (decide ((List.length (tcellL (T.l t)):Int)<=64))) zJZ)
 (Q (AV.bool false) zJZ))
 (Q (AV.bool false) zJZ))
 (Q (AV.bool false) zJZ))))))):=by kernel_rfl
def C133:zJC:=fun args σ K=>∃ t:T,args=[.agg (tc t)]/\t.s.size<=1099511627776/\K (.bool (zNV t)) σ.untok

mutual
def zNW:T->Bool
 | .mk k n s l=>zNV (.mk k n s l)&&nodesRL l
def nodesRL:List T->Bool
 | []=>true
 | x :: l=>zNW x&&nodesRL l
end
def C111 (N:Nat):zJC:=fun args σ K=>∃ t:T,args=[.agg (tc t)]/\(t.bulk<=1099511627776/\SizeOf.sizeOf t<N)/\K (.bool (zNW t)) σ.untok
def H111 (E:Env) (N:Nat):zDY:=hnd E zHI zMU [(133,C133),(111,C111 N)]
def N111:zIE:=fun id i=>match Nat.beq id 6&&Nat.beq i 3 with
 | true=>zIB.as (fun t:T => .vptr (tc t))
 | false=>zIB.no
def zNX (t:T):LI Nat where
 F i:=[(1,.l 1 0),(3,.v (iZ i))]
 FL _:=[(1,tc t)]
 L _:=[]
 m _:=0
 I i:=i<=t.l.length/\nodesRL t.l=nodesRL (t.l.drop i)
 μ i:=t.l.length - i
 Ex _ e a σ:=match e with
  | .exit 0=>nodesRL t.l=true/\zJQ a σ [] [] [] 0
  | .ret=>nodesRL t.l=false/\zJQ a σ [(2,.v (.bool false))] [] [] 0
  | _=>False
theorem zNY:zJ7 Tryz.prog 111=[.loop (zJU Tryz.prog 111 0)]:=by kernel_rfl
theorem vc111l (B:Nat) (w0:World) (G:Nat->AV) (N:Nat) (t:T) (i:Nat):(wpC (EV B w0 G) (H111 (EV B w0 G) N) (fun _ _ _ _=>False) (zHI 111) N111 (zJU Tryz.prog 111 0) ((zNX t).post i) (frm ((zNX t).F i) ((zNX t).FL i)) (lst ((zNX t).L i) ((zNX t).m i))) =
 (bcase (decide ((i:Int)<(List.length (tcellL (T.l t)):Int)))
 (((0:Int)<=(i:Int)/\
 (i:Int)<(List.length (tcellL (T.l t)):Int))/\
 ∃ x0:T,AV.vptr (AV.cells (List.getD (tcellL (T.l t)) (Int.toNat (↑i:Int)) AV.undef))=AV.vptr (tc x0)/\
 ∃ t1:T,[AV.agg (tc x0)]=[AV.agg (tc t1)]/\
 (T.bulk t1<=1099511627776/\
 SizeOf.sizeOf t1<N)/\
 bcase (!(zNW t1))
 (nodesRL (T.l t)=false/\
 Rf (TV.v (AV.bool false))/\
 (0:Nat)=0/\
 True)
 (∃ x'2:Nat,((x'2<=List.length (T.l t)/\
 (nodesRL (T.l t))=nodesRL (List.drop x'2 (T.l t)))/\
 ((LI.μ (zNX t) x'2):Nat)<LI.μ (zNX t) i)/\
 Rf (TV.l 1 0)/\
 (TV.v (iZ (IntKind.wrap .i64 ((i:Int)+1))))=TV.v (iZ (x'2:Int))/\
 Rf (tc t)/\
 (0:Nat)=0/\
 True))
 (nodesRL (T.l t)=true/\
 (0:Nat)=0/\
 True)):=by kernel_rfl
def L111 (t:T):zFV:=fun _ Q a σ=>zJQ a σ ((zNX t).F 0) ((zNX t).FL 0) [] 0 /\
 ((nodesRL t.l=true->Q (.exit 0) (frm [] []) (lst [] 0))/\(nodesRL t.l=false->Q .ret (frm [(2,.v (.bool false))] []) (lst [] 0)))
theorem vc111 (B:Nat) (w0:World) (G:Nat->AV) (N:Nat) (t:T) (Q:AV->zA6->Prop):(zJ6 (EV B w0 G) (H111 (EV B w0 G) N) (L111 t) zHI zMV 111 [.agg (tc t)] zJZ Q) =
 (∃ t0:T,[AV.agg (tc t)]=[AV.agg (tc t0)]/\
 ByteArray.size (T.s t0)<=1099511627776/\
 bcase (!(zNV t0))
 (Q (AV.bool false) (Ut zJZ))
 ((Rf (TV.l 1 0)/\
 Rf (TV.v (iZ 0))/\
 Rf (tc t)/\
 (0:Nat)=0/\
 True)/\
 ((nodesRL (T.l t)=true)->(Q (AV.bool true) (lst [] 0)))/\
 ((nodesRL (T.l t)=false)->(Q (AV.bool false) (lst [] 0))))):=by kernel_rfl

def zNZ (N:Nat):zJC:=fun args σ K=>∃ t:T,args=[.agg (tc t)]/\(t.bulk<=1099511627776/\SizeOf.sizeOf t<N)/\K (.tuple [iZ t.size,iZ t.deep]) σ.untok
def H110 (E:Env) (N:Nat):zDY:=hnd E zHI zMU [(110,zNZ N)]
def N110:zIE:=fun id i=>match Nat.beq id 6&&Nat.beq i 3 with
 | true=>zIB.as (fun t:T => .vptr (tc t))
 | false=>zIB.no
structure zO0 where
 i:Nat
 n:Nat
 d:Nat
def zO1 (t:T):LI zO0 where
 F x:=[(1,.l 1 0),(4,.v (iZ x.n)),(5,.v (iZ x.d)),(6,.v (iZ x.i))]
 FL _:=[(1,tc t)]
 L _:=[]
 m _:=0
 I x:=x.i<=t.l.length/\x.n+sizeL (t.l.drop x.i)=t.size/\max x.d (deepL (t.l.drop x.i))=deepL t.l
 μ x:=t.l.length - x.i
 Ex _ e a σ:=match e with
  | .exit 0=>zJQ a σ [(4,.v (iZ t.size)),(5,.v (iZ (deepL t.l)))] [] [] 0
  | _=>False
theorem zO2:zJ7 Tryz.prog 110=[.loop (zJU Tryz.prog 110 0)]:=by kernel_rfl
theorem vc110l (B:Nat) (w0:World) (G:Nat->AV) (N:Nat) (t:T) (x:zO0):(wpC (EV B w0 G) (H110 (EV B w0 G) N) (fun _ _ _ _=>False) (zHI 110) N110 (zJU Tryz.prog 110 0) ((zO1 t).post x) (frm ((zO1 t).F x) ((zO1 t).FL x)) (lst ((zO1 t).L x) ((zO1 t).m x))) =
 (bcase (decide ((zO0.i x:Int)<(List.length (tcellL (T.l t)):Int)))
 (((0:Int)<=(zO0.i x:Int)/\
 (zO0.i x:Int)<(List.length (tcellL (T.l t)):Int))/\
 ∃ x0:T,AV.vptr (AV.cells (List.getD (tcellL (T.l t)) (Int.toNat (↑(zO0.i x):Int)) AV.undef))=AV.vptr (tc x0)/\
 ∃ t1:T,[AV.agg (tc x0)]=[AV.agg (tc t1)]/\
 (T.bulk t1<=1099511627776/\
 SizeOf.sizeOf t1<N)/\
 ∃ x'2:zO0,((zO0.i x'2<=List.length (T.l t)/\
 (((zO0.n x'2)+(sizeL (List.drop (zO0.i x'2) (T.l t)))):Nat)=T.size t/\
 ((Max.max (zO0.d x'2) (deepL (List.drop (zO0.i x'2) (T.l t)))):Nat)=deepL (T.l t))/\
 ((LI.μ (zO1 t) x'2):Nat)<LI.μ (zO1 t) x)/\
 Rf (TV.l 1 0)/\
 (TV.v (iZ (IntKind.wrap .i64 ((zO0.n x:Int)+(T.size t1:Int)))))=TV.v (iZ (zO0.n x'2:Int))/\
 (TV.v (iZ (if Bool.true=Bool.true then if (↑(T.deep t1):Int) > (↑(zO0.d x):Int) then (↑(T.deep t1):Int) else (↑(zO0.d x):Int) else if (↑(T.deep t1):Int)<(↑(zO0.d x):Int) then (↑(T.deep t1):Int) else (↑(zO0.d x):Int))))=TV.v (iZ (zO0.d x'2:Int))/\
 (TV.v (iZ (IntKind.wrap .i64 ((zO0.i x:Int)+1))))=TV.v (iZ (zO0.i x'2:Int))/\
 Rf (tc t)/\
 (0:Nat)=0/\
 True)
 (TV.v (iZ (zO0.n x:Int))=TV.v (iZ (T.size t:Int))/\
 (TV.v (iZ (zO0.d x:Int)))=TV.v (iZ (deepL (T.l t):Int))/\
 (0:Nat)=0/\
 True)):=by kernel_rfl
def L110 (t:T):zFV:=fun _ Q a σ=>(zO1 t).I ⟨0,1,0⟩/\zJQ a σ ((zO1 t).F ⟨0,1,0⟩) ((zO1 t).FL ⟨0,1,0⟩) [] 0 /\
 Q (.exit 0) (frm [(4,.v (iZ t.size)),(5,.v (iZ (deepL t.l)))] []) (lst [] 0)
theorem vc110 (B:Nat) (w0:World) (G:Nat->AV) (N:Nat) (t:T) (Q:AV->zA6->Prop):(zJ6 (EV B w0 G) (H110 (EV B w0 G) N) (L110 t) zHI zMV 110 [.agg (tc t)] zJZ Q) =
 (((0:Nat)<=List.length (T.l t)/\
 ((1+(sizeL (List.drop 0 (T.l t)))):Nat)=T.size t/\
 ((Max.max 0 (deepL (List.drop 0 (T.l t)))):Nat)=deepL (T.l t))/\
 (Rf (TV.l 1 0)/\
 Rf (TV.v (iZ 1))/\
 Rf (TV.v (iZ 0))/\
 Rf (TV.v (iZ 0))/\
 Rf (tc t)/\
 (0:Nat)=0/\
 True)/\
 Q (AV.tuple [iZ (T.size t:Int),iZ (IntKind.wrap .i64 ((deepL (T.l t):Int)+1))]) (lst [] 0)):=by kernel_rfl

def H32 (E:Env) (N:Nat):zDY:=hnd E zHI zMU [(110,zNZ N),(111,C111 N)]
def isR (t:T):Bool:=decide ((t.size:Int)<=4000)&&(decide ((t.deep:Int)<=600)&&zNW t)
theorem vc32 (B:Nat) (w0:World) (G:Nat->AV) (N:Nat) (t:T) (Q:AV->zA6->Prop):(zJ6 (EV B w0 G) (H32 (EV B w0 G) N) (fun _ _ _ _=>False) zHI zMV 32 [.agg (tc t)] zJZ Q) =
 (∃ t0:T,[AV.agg (tc t)]=[AV.agg (tc t0)]/\
 (T.bulk t0<=1099511627776/\
 SizeOf.sizeOf t0<N)/\
 bcase (decide ((T.size t0:Int)<=4000))
 (bcase (decide ((T.deep t0:Int)<=600))
 (∃ t1:T,[AV.agg (tc t)]=[AV.agg (tc t1)]/\
 (T.bulk t1<=1099511627776/\
 SizeOf.sizeOf t1<N)/\
 bcase (!(zNW t1))
 (Q (iZ 3) (Ut (Ut zJZ)))
 (Q (iZ 0) (Ut (Ut zJZ))))
 (Q (iZ 3) (Ut zJZ)))
 (Q (iZ 3) (Ut zJZ))):=by kernel_rfl
def C32:zJC:=fun args σ K=>∃ t:T,args=[.agg (tc t)]/\t.bulk<=1099511627776/\K (iZ (zND t)) σ.untok
end Go.V
set_option linter.unusedSimpArgs false
set_option linter.unusedSectionVars false
namespace Go.V
open Go Go.Proofs

theorem zO3 {s:ByteArray} {i:Nat} (h:(s.get! i).toNat<128):Utf8.decode s i=((s.get! i).toNat,1):=by
 unfold Utf8.decode
 dsimp only
 exact if_pos h
theorem zO4 {s:ByteArray} {i:Nat} (h:¬ (s.get! i).toNat<128):128<=(Utf8.decode s i).1:=by
 unfold Utf8.decode
 dsimp only
 simp only [Nat.add_zero]
 rw [if_neg h]
 have e:128<=Utf8.runeError:=by decide
 split
 ·split
  ·assumption
  ·exact e
 ·split
  ·split
   ·rename_i h1
    simp only [Bool.and_eq_true,decide_eq_true_eq] at h1
    omega
   ·exact e
  ·split
   ·split
    ·rename_i h1
     simp only [Bool.and_eq_true,decide_eq_true_eq] at h1
     omega
    ·exact e
   ·exact e

theorem zO5 {s:ByteArray} {i:Nat} (h:i<s.size):s.get! i=s.data.toList[i]'(by have h':i<s.data.size:=h; simpa using h'):=by
 have h':i<s.data.size:=h
 cases s with
 | mk d =>
  show d[i]! = _
  rw [getElem!_pos d i h']
  simp
theorem zO6 {s:ByteArray} {i:Nat} (h:i<s.size):zNR s i=((decide (32<=(s.get! i).toNat)&&decide ((s.get! i).toNat<=126))&&zNR s (i+1)):=by
 have h':i<s.data.toList.length:=by have h':i<s.data.size:=h; simpa using h'
 unfold zNR
 rw [List.drop_eq_getElem_cons h',List.all_cons,zO5 h]
theorem zO7 {s:ByteArray} {i:Nat} (h:s.size<=i):zNR s i=true:=by
 have h':s.data.toList.length<=i:=by have h':s.data.size<=i:=h; simpa using h'
 unfold zNR
 rw [List.drop_of_length_le h']; rfl

theorem zO8 {s:ByteArray}:∀ (n i:Nat),s.size<i+n->(zMS s n i<0↔zNR s i=true)
 | 0,i,h=>by
  rw [zMS,zO7 (by omega)]
  exact ⟨fun _=>rfl,fun _=>by omega⟩
 | n+1,i,h=>by
  unfold zMS
  by_cases hi:i<s.size
  ·rw [if_pos hi,zO6 hi]
   by_cases h1:(s.get! i).toNat<128
   ·rw [zO3 h1]
    dsimp only
    by_cases h2:((s.get! i).toNat:Int)<32\/((s.get! i).toNat:Int) > 126
    ·rw [if_pos h2]
     refine ⟨fun k=>by omega,fun k => ?_⟩
     simp only [Bool.and_eq_true,decide_eq_true_eq] at k
     omega
    ·rw [if_neg h2,zO8 n (i+1) (by omega)]
     have h3:32<=(s.get! i).toNat:=by omega
     have h4:(s.get! i).toNat<=126:=by omega
     rw [decide_eq_true h3,decide_eq_true h4]; simp
   ·have h2:=zO4 h1
    rw [if_pos (.inr (by omega))]
    refine ⟨fun k=>by omega,fun k => ?_⟩
    simp only [Bool.and_eq_true,decide_eq_true_eq] at k
    omega
  ·rw [if_neg hi,zO7 (by omega)]
   exact ⟨fun _=>rfl,fun _=>by omega⟩

theorem zO9 (s:ByteArray):zMT s=zNS s:=by
 unfold zMT zNS
 have:decide (bad s<0)=zNR s 0:=by
  have:=zO8 (s:=s) (s.size+1) 0 (by omega)
  cases h:zNR s 0 with
  | true=>exact decide_eq_true (this.2 h)
  | false=>exact decide_eq_false fun k=>by rw [this.1 k] at h; cases h
 rw [this,Bool.and_comm]

theorem formB_eq (t:T):zN2 t=zNV t:=by
 unfold zN2 zNV
 simp only [zO9]
 repeat' split
 all_goals (first | rfl | (simp only [Bool.and_comm,Bool.and_left_comm]; done) | (cases zAI t.s ⟨⟨[]⟩⟩ <;> cases decide ((t.l.length:Int)=0) <;> simp))

theorem zOA (t:T):zNW t=(zNV t&&nodesRL t.l):=by cases t; rw [zNW]; rfl

mutual
theorem zOB:∀ (t:T) (left deep:Int),0<=left->left<=4000->0<=deep->deep<=600 ->
  (((t.size:Int)<=left/\(t.deep:Int)<=deep/\zNW t=true->zN4 t left deep=t.size)/\(¬ ((t.size:Int)<=left/\(t.deep:Int)<=deep/\zNW t=true)->zN4 t left deep=left+1))
 | .mk k n s l,left,deep,h0,h1,h2,h3=>by
  have hs:(T.mk k n s l).size=1+sizeL l:=T.size_eq _
  have hd:(T.mk k n s l).deep=1+deepL l:=T.deep_eq _
  have hn:zNW (.mk k n s l)=(zNV (.mk k n s l)&&nodesRL l):=zOA _
  rw [zN4,hs,hd,hn,<-formB_eq]
  have hw:wr (left+1)=left+1:=zN8 (by omega) (by omega)
  by_cases hb:zN3 (.mk k n s l) left deep=true
  ·rw [if_pos hb]
   unfold zN3 at hb
   simp only [Bool.and_eq_true,Bool.not_eq_true',decide_eq_false_iff_not] at hb
   obtain ⟨b1,b2,b3⟩:=hb
   have ih:=countL_is l 1 left deep (by omega) (by omega) h1 (by omega) h3
   rw [b3]
   simp only [Bool.true_and]
   refine ⟨fun k => ?_,fun k => ?_⟩
   ·rw [ih.1 ⟨by omega,by omega,k.2.2⟩]; omega
   ·exact ih.2 fun j=>k ⟨by omega,by omega,j.2.2⟩
  ·rw [if_neg hb,hw]
   refine ⟨fun k => ?_,fun _=>rfl⟩
   exfalso
   apply hb
   unfold zN3
   simp only [Bool.and_eq_true] at k
   simp only [Bool.and_eq_true,Bool.not_eq_true',decide_eq_false_iff_not]
   exact ⟨by omega,by omega,k.2.2.1⟩
theorem countL_is:∀ (l:List T) (n left deep:Int),1<=n->n<=left->left<=4000->1<=deep->deep<=600 ->
  ((n+(sizeL l:Int)<=left/\(deepL l:Int)<=deep - 1/\nodesRL l=true->countL l n left deep=n+sizeL l)/\(¬ (n+(sizeL l:Int)<=left/\(deepL l:Int)<=deep - 1/\nodesRL l=true)->countL l n left deep=left+1))
 | [],n,left,deep,h0,h1,h2,h3,h4=>by
  rw [countL,sizeL,deepL,nodesRL]
  exact ⟨fun _=>by simp,fun k=>absurd ⟨by simp; omega,by simp; omega,rfl⟩ k⟩
 | x :: l,n,left,deep,h0,h1,h2,h3,h4=>by
  have hw1:wr (left - n)=left - n:=zN8 (by omega) (by omega)
  have hw2:wr (deep - 1)=deep - 1:=zN8 (by omega) (by omega)
  have hw3:wr (left+1)=left+1:=zN8 (by omega) (by omega)
  have ih:=zOB x (left - n) (deep - 1) (by omega) (by omega) (by omega) (by omega)
  rw [countL,hw1,hw2,hw3,sizeL,deepL,nodesRL]
  by_cases hx:(x.size:Int)<=left - n/\(x.deep:Int)<=deep - 1/\zNW x=true
  ·rw [ih.1 hx]
   have hw4:wr (n+(x.size:Int))=n+x.size:=zN8 (by omega) (by omega)
   rw [hw4,if_neg (by omega),hx.2.2]
   have ih2:=countL_is l (n+x.size) left deep (by omega) (by omega) h2 h3 h4
   simp only [Bool.true_and]
   refine ⟨fun k => ?_,fun k => ?_⟩
   ·rw [ih2.1 ⟨by omega,by omega,k.2.2⟩]; omega
   ·exact ih2.2 fun j=>k ⟨by omega,by omega,j.2.2⟩
  ·rw [ih.2 hx]
   have hw4:wr (n+(left - n+1))=left+1:=by rw [show n+(left - n+1)=left+1 by omega]; exact hw3
   rw [hw4,if_pos (by omega)]
   refine ⟨fun k => ?_,fun _=>rfl⟩
   exfalso
   apply hx
   simp only [Bool.and_eq_true] at k
   exact ⟨by omega,by omega,k.2.2.1⟩
end

theorem zOC (t:T):zND t=if isR t=true then 0 else 3:=by
 have:=zOB t 4000 600 (by omega) (by omega) (by omega) (by omega)
 unfold zND isR
 by_cases h:(t.size:Int)<=4000/\(t.deep:Int)<=600/\zNW t=true
 ·rw [this.1 h,if_neg (by omega),if_pos (by simp only [Bool.and_eq_true,decide_eq_true_eq]; exact h)]
 ·rw [this.2 h,if_pos (by omega),if_neg (by simp only [Bool.and_eq_true,decide_eq_true_eq]; exact h)]
end Go.V
namespace Go.V
open Go Go.Proofs

theorem zOD {s:ByteArray} {i:Nat} (h:i<s.size):List.getD (Array.toList (ByteArray.data s)) i 0=s.get! i:=by
 have h':i<s.data.toList.length:=by have h':i<s.data.size:=h; simpa using h'
 rw [zO5 h,List.getD,List.getElem?_eq_getElem h']; rfl

section
variable {B:Nat} {w0:World} {G:Nat->AV}
theorem loop158 {s:ByteArray} (hs:s.size<=1099511627776) (Q:zDW) (a:zDN) (σ:zA6) (h:L158 s (.loop (zJU Tryz.prog 158 0)) Q a σ) :
  AWp (EV B w0 G) none (zJ8 Tryz.prog 158) (.loop (zJU Tryz.prog 158 0)) Q a σ:=by
 obtain ⟨h1,h2,h3⟩:=h
 refine zJS (zNT s) (x0:=0) (fun i hI=>zN0 (zKM B w0 G) zMZ (by kernel_rfl) (by kernel_rfl) ((vc158l B w0 G s i).mpr ?_)) (fun z hI e a σ hne k => ?_) ⟨Nat.zero_le _,rfl⟩ h1
 ·obtain ⟨hi,hc⟩:=hI
  refine zE2 (fun hb => ?_) (fun hb => ?_)
  ·have hb:i<s.size:=by simpa using hb
   have hg:List.getD (Array.toList (ByteArray.data s)) (Int.toNat (i:Int)) 0=s.get! i:=by rw [Int.toNat_natCast]; exact zOD hb
   rw [hg]
   rw [zO6 hb] at hc
   refine ⟨⟨by omega,by omega⟩,zE2 (fun h4 => ?_) (fun h4=>⟨⟨by omega,by omega⟩,zE2 (fun h5 => ?_) (fun h5 => ?_)⟩)⟩
   ·have h4:(((s.get! i).toNat:Int))<32:=of_decide_eq_true h4
    rw [decide_eq_false (by omega)] at hc
    exact ⟨by rw [hc]; rfl,rfl,rfl,trivial⟩
   ·have h5:(((s.get! i).toNat:Int)) > 126:=of_decide_eq_true h5
    rw [decide_eq_false (p:=(s.get! i).toNat<=126) (by omega)] at hc
    exact ⟨by rw [hc]; simp,rfl,rfl,trivial⟩
   ·have h4:¬ (((s.get! i).toNat:Int))<32:=of_decide_eq_false h4
    have h5:¬ (((s.get! i).toNat:Int)) > 126:=of_decide_eq_false h5
    rw [decide_eq_true (by omega),decide_eq_true (by omega)] at hc
    exact ⟨i+1,⟨⟨hb,by rw [hc]; simp⟩,show s.size - (i+1)<s.size - i by omega⟩,rfl,by
     have:IntKind.wrap .i64 ((i:Int)+1)=((i+1:Nat):Int):=by rw [zN8 (by omega) (by omega)]; omega
     rw [this],rfl,trivial⟩
  ·have hb:¬ i<s.size:=by simpa using hb
   exact ⟨by rw [hc,zO7 (by omega)],rfl,rfl,trivial⟩
 ·cases e with
  | exit id =>
   cases id with
   | zero=>exact zJT (F:=[(0,.v (.str s))]) (FL:=[]) (L:=[]) (m:=0) k.2 (h2 k.1)
   | succ id=>exact k.elim
  | ret=>exact zJT (F:=[(2,.v (.bool false))]) (FL:=[]) (L:=[]) (m:=0) k.2 (h3 k.1)
  | normal=>exact absurd rfl hne
  | _=>exact k.elim

variable (hG:∀ i,zJV (G i))
include hG
theorem zOE:zJD (EV B w0 G) 158 C158:=by
 rintro args σ Q ⟨s,rfl,hs,hQ⟩
 refine zN1 hG (fun v hv => ?_) (.bool _) (fun Q hQ => ?_) hQ
 ·simp only [List.mem_cons,List.not_mem_nil,or_false] at hv
  subst hv
  exact .str _
 refine zJ9 (zKM B w0 G) zMZ (fun l hl _ Q a σ k => ?_) ((vc158 B w0 G s Q).mpr ?_)
 ·change l∈zJ7 Tryz.prog 158 at hl
  rw [zNU] at hl
  simp only [List.mem_cons,List.not_mem_nil,or_false] at hl
  subst hl
  exact loop158 hs Q a σ k
 ·refine ⟨⟨rfl,rfl,rfl,trivial⟩,fun h=>zE2 (fun h1 => ?_) (fun h1 => ?_),fun h => ?_⟩
  ·have:=hQ (lst [] 0)
   unfold zNS at this
   rw [h,h1] at this; exact this
  ·have:=hQ (lst [] 0)
   unfold zNS at this
   rw [h,h1] at this; exact this
  ·have:=hQ (lst [] 0)
   unfold zNS at this
   rw [h] at this; exact this

theorem c133_ok:zJD (EV B w0 G) 133 C133:=by
 rintro args σ Q ⟨t,rfl,hs,hQ⟩
 have hH:zIP (EV B w0 G) (H133 (EV B w0 G)):=zJJ (zKM B w0 G) (zJI (zOE hG) zJH)
 refine zN1 hG (fun v hv => ?_) (.bool _) (fun Q hQ => ?_) hQ
 ·simp only [List.mem_cons,List.not_mem_nil,or_false] at hv
  subst hv
  exact zMK t
 refine zJ9 (zKM B w0 G) hH (fun l hl _ Q a σ k=>k.elim) ((vc133 B w0 G t Q).mpr ?_)
 have hl:(tcellL t.l).length=t.l.length:=zMH _
 rw [hl]
 unfold zNV at hQ
 have e0:∀ n:Int,((n==0)=decide (n=0)):=fun n=>rfl
 refine zE2 (fun h1 => ?_) (fun h1 => ?_)
 ·have h1:t.k=1:=by simpa using h1
  rw [if_pos h1] at hQ
  refine zE2 (fun c1=>zE2 (fun c2=>zE2 (fun c3 => ?_) (fun c3 => ?_)) (fun c2 => ?_)) (fun c1 => ?_)
  ·rw [c1,c2,c3] at hQ; exact hQ _
  ·rw [c1,c2,c3] at hQ; exact hQ _
  ·rw [c1,c2] at hQ; exact hQ _
  ·rw [c1] at hQ; exact hQ _
 have h1:¬ t.k=1:=by simpa using h1
 rw [if_neg h1] at hQ
 refine zE2 (fun h2 => ?_) (fun h2 => ?_)
 ·have h2:t.k=2:=by simpa using h2
  rw [if_pos h2] at hQ
  refine zE2 (fun c1=>zE2 (fun c2=>zE2 (fun c3 => ?_) (fun c3 => ?_)) (fun c2 => ?_)) (fun c1 => ?_)
  ·rw [c1,c2,c3] at hQ; exact hQ _
  ·rw [c1,c2,c3] at hQ; exact hQ _
  ·rw [c1,c2] at hQ; exact hQ _
  ·rw [c1] at hQ; exact hQ _
 have h2:¬ t.k=2:=by simpa using h2
 rw [if_neg h2] at hQ
 refine zE2 (fun h3 => ?_) (fun h3 => ?_)
 ·have h3:t.k=3:=by simpa using h3
  rw [if_pos h3] at hQ
  refine zE2 (fun c1=>⟨t.s,rfl,hs,zE2 (fun c2 => ?_) (fun c2 => ?_)⟩) (fun c1 => ?_)
  ·rw [<-e0,c1,c2] at hQ; exact hQ _
  ·rw [<-e0,c1,c2] at hQ; exact hQ _
  ·rw [<-e0,c1] at hQ; exact hQ _
 have h3:¬ t.k=3:=by simpa using h3
 rw [if_neg h3] at hQ
 refine zE2 (fun h4 => ?_) (fun h4 => ?_)
 ·have h4:t.k=4:=by simpa using h4
  rw [if_pos h4] at hQ
  refine zE2 (fun c1=>zE2 (fun c2 => ?_) (fun c2 => ?_)) (fun c1 => ?_)
  ·rw [<-e0,c1,c2] at hQ; exact hQ _
  ·rw [<-e0,c1,c2] at hQ; exact hQ _
  ·rw [<-e0,c1] at hQ; exact hQ _
 have h4:¬ t.k=4:=by simpa using h4
 rw [if_neg h4] at hQ
 refine zE2 (fun h5 => ?_) (fun h5 => ?_)
 ·have h5:t.k=5:=by simpa using h5
  rw [if_pos h5] at hQ
  refine zE2 (fun c1=>⟨t.s,rfl,hs,zE2 (fun c2=>zE2 (fun c3 => ?_) (fun c3 => ?_)) (fun c2 => ?_)⟩) (fun c1 => ?_)
  ·rw [<-e0,c1,c2,c3] at hQ; exact hQ _
  ·rw [<-e0,c1,c2,c3] at hQ; exact hQ _
  ·rw [<-e0,c1,c2] at hQ; exact hQ _
  ·rw [<-e0,c1] at hQ; exact hQ _
 have h5:¬ t.k=5:=by simpa using h5
 rw [if_neg h5] at hQ
 refine zE2 (fun h6 => ?_) (fun h6 => ?_)
 ·have h6:t.k=6:=by simpa using h6
  rw [if_pos h6] at hQ
  refine zE2 (fun c1=>zE2 (fun c2 => ?_) (fun c2 => ?_)) (fun c1 => ?_)
  ·rw [<-e0,c1,c2] at hQ; exact hQ _
  ·rw [<-e0,c1,c2] at hQ; exact hQ _
  ·rw [<-e0,c1] at hQ; exact hQ _
 have h6:¬ t.k=6:=by simpa using h6
 rw [if_neg h6] at hQ
 exact hQ _

omit hG in
theorem loop111 {N:Nat} {t:T} (hb:t.bulk<=1099511627776) (hN:∀ x∈t.l,SizeOf.sizeOf x<N) (hH:zIP (EV B w0 G) (H111 (EV B w0 G) N)) (Q:zDW) (a:zDN) (σ:zA6) (h:L111 t (.loop (zJU Tryz.prog 111 0)) Q a σ) :
  AWp (EV B w0 G) none (zJ8 Tryz.prog 111) (.loop (zJU Tryz.prog 111 0)) Q a σ:=by
 obtain ⟨h1,h2,h3⟩:=h
 have hlen:t.l.length<1099511627776:=by have:=t.len_size; have:=t.size_bulk; omega
 refine zJS (zNX t) (x0:=0) (fun i hI=>zN0 (zKM B w0 G) hH (by kernel_rfl) (by kernel_rfl) ((vc111l B w0 G N t i).mpr ?_)) (fun z hI e a σ hne k => ?_) ⟨Nat.zero_le _,rfl⟩ h1
 ·obtain ⟨hi,hc⟩:=hI
  rw [zMH]
  refine zE2 (fun hb2 => ?_) (fun hb2 => ?_)
  ·have hb2:i<t.l.length:=by simpa using hb2
   have hx:t.l[i].bulk<=1099511627776:=by
    have:=zMP (List.getElem_mem hb2)
    have:=t.bulk_eq
    omega
   rw [List.drop_eq_getElem_cons hb2,nodesRL] at hc
   refine ⟨⟨by omega,by omega⟩,t.l[i],by rw [Int.toNat_natCast]; exact zNA hb2,t.l[i],rfl,⟨hx,hN _ (List.getElem_mem hb2)⟩,zE2 (fun h4 => ?_) (fun h4 => ?_)⟩
   ·have h4:zNW t.l[i]=false:=by simpa using h4
    rw [h4] at hc
    exact ⟨by rw [hc]; rfl,rfl,rfl,trivial⟩
   ·have h4:zNW t.l[i]=true:=by simpa using h4
    rw [h4] at hc
    exact ⟨i+1,⟨⟨hb2,by rw [hc]; rfl⟩,show t.l.length - (i+1)<t.l.length - i by omega⟩,rfl,by
     have:IntKind.wrap .i64 ((i:Int)+1)=((i+1:Nat):Int):=by rw [zN8 (by omega) (by omega)]; omega
     rw [this],rfl,rfl,trivial⟩
  ·have hb2:¬ i<t.l.length:=by simpa using hb2
   rw [List.drop_of_length_le (by omega)] at hc
   exact ⟨by rw [hc]; rfl,rfl,trivial⟩
 ·cases e with
  | exit id =>
   cases id with
   | zero=>exact zJT (F:=[]) (FL:=[]) (L:=[]) (m:=0) k.2 (h2 k.1)
   | succ id=>exact k.elim
  | ret=>exact zJT (F:=[(2,.v (.bool false))]) (FL:=[]) (L:=[]) (m:=0) k.2 (h3 k.1)
  | normal=>exact absurd rfl hne
  | _=>exact k.elim

theorem zOF:∀ N,zJD (EV B w0 G) 111 (C111 N)
 | 0=>by
  rintro args σ Q ⟨t,rfl,hN,hQ⟩
  omega
 | N+1=>by
  rintro args σ Q ⟨t,rfl,⟨hb,hN⟩,hQ⟩
  have hH:zIP (EV B w0 G) (H111 (EV B w0 G) N):=zJJ (zKM B w0 G) (zJI (c133_ok hG) (zJI (zOF N) zJH))
  refine zN1 hG (fun v hv => ?_) (.bool _) (fun Q hQ => ?_) hQ
  ·simp only [List.mem_cons,List.not_mem_nil,or_false] at hv
   subst hv
   exact zMK t
  refine zJ9 (zKM B w0 G) hH (fun l hl _ Q a σ k => ?_) ((vc111 B w0 G N t Q).mpr ?_)
  ·change l∈zJ7 Tryz.prog 111 at hl
   rw [zNY] at hl
   simp only [List.mem_cons,List.not_mem_nil,or_false] at hl
   subst hl
   exact loop111 hb (fun x hx=>by have:=T.sizeOf_mem hx; omega) hH Q a σ k
  ·have hs:t.s.size<=1099511627776:=by have:=t.bulk_eq; omega
   rw [zOA] at hQ
   refine ⟨t,rfl,hs,zE2 (fun h => ?_) (fun h=>⟨⟨rfl,rfl,rfl,rfl,trivial⟩,fun h2 => ?_,fun h2 => ?_⟩)⟩
   ·have h:zNV t=false:=by simpa using h
    rw [h] at hQ; exact hQ _
   ·have h:zNV t=true:=by simpa using h
    rw [h,h2] at hQ; exact hQ _
   ·have h:zNV t=true:=by simpa using h
    rw [h,h2] at hQ; exact hQ _

omit hG in
theorem loop110 {N:Nat} {t:T} (hb:t.bulk<=1099511627776) (hN:∀ x∈t.l,SizeOf.sizeOf x<N) (hH:zIP (EV B w0 G) (H110 (EV B w0 G) N)) (Q:zDW) (a:zDN) (σ:zA6) (h:L110 t (.loop (zJU Tryz.prog 110 0)) Q a σ) :
  AWp (EV B w0 G) none (zJ8 Tryz.prog 110) (.loop (zJU Tryz.prog 110 0)) Q a σ:=by
 obtain ⟨h0,h1,h2⟩:=h
 have hsz:=t.size_bulk
 have hlen:=t.len_size
 refine zJS (zO1 t) (x0:=⟨0,1,0⟩) (fun x hI=>zN0 (zKM B w0 G) hH (by kernel_rfl) (by kernel_rfl) ((vc110l B w0 G N t x).mpr ?_)) (fun z hI e a σ hne k => ?_) h0 h1
 ·obtain ⟨i,n,d⟩:=x
  obtain ⟨hi,hn,hd⟩:=hI
  dsimp only at hi hn hd ⊢
  rw [zMH]
  refine zE2 (fun hb2 => ?_) (fun hb2 => ?_)
  ·have hb2:i<t.l.length:=by simpa using hb2
   have hx:t.l[i].bulk<=1099511627776:=by
    have:=zMP (List.getElem_mem hb2)
    have:=t.bulk_eq
    omega
   rw [List.drop_eq_getElem_cons hb2,sizeL] at hn
   rw [List.drop_eq_getElem_cons hb2,deepL] at hd
   refine ⟨⟨by omega,by omega⟩,t.l[i],by rw [Int.toNat_natCast]; exact zNA hb2,t.l[i],rfl,⟨hx,hN _ (List.getElem_mem hb2)⟩,⟨i+1,n+t.l[i].size,max d t.l[i].deep⟩,⟨⟨hb2,show n+t.l[i].size+sizeL (t.l.drop (i+1))=t.size by omega,show max (max d t.l[i].deep) (deepL (t.l.drop (i+1)))=deepL t.l by omega⟩,show t.l.length - (i+1)<t.l.length - i by omega⟩,rfl,?_,?_,?_,rfl,rfl,trivial⟩
   ·have:IntKind.wrap .i64 ((n:Int)+(t.l[i].size:Int))=((n+t.l[i].size:Nat):Int):=by rw [zN8 (by omega) (by omega)]; omega
    rw [this]
   ·have:(if Bool.true=Bool.true then if ((T.deep t.l[i]:Nat):Int) > (d:Int) then (T.deep t.l[i]:Int) else (d:Int) else if ((T.deep t.l[i]:Nat):Int)<(d:Int) then (T.deep t.l[i]:Int) else (d:Int))=((max d t.l[i].deep:Nat):Int):=by
     rw [if_pos rfl]
     split <;> omega
    rw [this]
   ·have:IntKind.wrap .i64 ((i:Int)+1)=((i+1:Nat):Int):=by rw [zN8 (by omega) (by omega)]; omega
    rw [this]
  ·have hb2:¬ i<t.l.length:=by simpa using hb2
   rw [List.drop_of_length_le (by omega),sizeL] at hn
   rw [List.drop_of_length_le (by omega),deepL] at hd
   have hn:n=t.size:=by omega
   have hd:d=deepL t.l:=by omega
   exact ⟨by rw [hn],by rw [hd],rfl,trivial⟩
 ·cases e with
  | exit id =>
   cases id with
   | zero=>exact zJT (F:=[(4,.v (iZ t.size)),(5,.v (iZ (deepL t.l)))]) (FL:=[]) (L:=[]) (m:=0) k h2
   | succ id=>exact k.elim
  | normal=>exact absurd rfl hne
  | _=>exact k.elim

theorem zOG:∀ N,zJD (EV B w0 G) 110 (zNZ N)
 | 0=>by
  rintro args σ Q ⟨t,rfl,hN,hQ⟩
  omega
 | N+1=>by
  rintro args σ Q ⟨t,rfl,⟨hb,hN⟩,hQ⟩
  have hH:zIP (EV B w0 G) (H110 (EV B w0 G) N):=zJJ (zKM B w0 G) (zJI (zOG N) zJH)
  refine zN1 hG (fun v hv => ?_) (.tuple (by simp; exact ⟨.int _ _,.int _ _⟩)) (fun Q hQ => ?_) hQ
  ·simp only [List.mem_cons,List.not_mem_nil,or_false] at hv
   subst hv
   exact zMK t
  refine zJ9 (zKM B w0 G) hH (fun l hl _ Q a σ k => ?_) ((vc110 B w0 G N t Q).mpr ?_)
  ·change l∈zJ7 Tryz.prog 110 at hl
   rw [zO2] at hl
   simp only [List.mem_cons,List.not_mem_nil,or_false] at hl
   subst hl
   exact loop110 hb (fun x hx=>by have:=T.sizeOf_mem hx; omega) hH Q a σ k
  ·have h1:=t.size_eq
   have h2:=t.deep_eq
   have h3:=t.size_bulk
   have h4:=t.deep_size
   refine ⟨⟨Nat.zero_le _,by rw [List.drop_zero]; omega,by rw [List.drop_zero]; omega⟩,⟨rfl,rfl,rfl,rfl,rfl,rfl,trivial⟩,?_⟩
   have:IntKind.wrap .i64 (((deepL t.l:Nat):Int)+1)=((t.deep:Nat):Int):=by rw [zN8 (by omega) (by omega)]; omega
   rw [this]
   exact hQ _

theorem c32_ok:zJD (EV B w0 G) 32 C32:=by
 rintro args σ Q ⟨t,rfl,hb,hQ⟩
 have hH:zIP (EV B w0 G) (H32 (EV B w0 G) (SizeOf.sizeOf t+1)):=zJJ (zKM B w0 G) (zJI (zOG hG _) (zJI (zOF hG _) zJH))
 refine zN1 hG (fun v hv => ?_) (.int _ _) (fun Q hQ => ?_) hQ
 ·simp only [List.mem_cons,List.not_mem_nil,or_false] at hv
  subst hv
  exact zMK t
 refine zJ9 (zKM B w0 G) hH (fun l hl _ Q a σ k=>k.elim) ((vc32 B w0 G (SizeOf.sizeOf t+1) t Q).mpr ?_)
 rw [zOC] at hQ
 unfold isR at hQ
 refine ⟨t,rfl,⟨hb,Nat.lt_succ_self _⟩,zE2 (fun h1=>zE2 (fun h2=>⟨t,rfl,⟨hb,Nat.lt_succ_self _⟩,zE2 (fun h3 => ?_) (fun h3 => ?_)⟩) (fun h2 => ?_)) (fun h1 => ?_)⟩
 ·have h3:zNW t=false:=by simpa using h3
  rw [h1,h2,h3] at hQ; exact hQ _
 ·have h3:zNW t=true:=by simpa using h3
  rw [h1,h2,h3] at hQ; exact hQ _
 ·rw [h1,h2] at hQ; exact hQ _
 ·rw [h1] at hQ; exact hQ _
end
end Go.V
