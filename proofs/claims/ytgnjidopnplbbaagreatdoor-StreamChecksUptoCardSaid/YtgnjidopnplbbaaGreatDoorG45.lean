import Derived.Test.YtgnjidopnplbbaaGreatDoorG43
import Derived.Test.YtgnjidopnplbbaaGreatDoorG44
import Derived.Test.YtgnjidopnplbbaaGreatDoorG40
/- Conditions: the reference's Check. -/
set_option maxRecDepth 1000000
set_option linter.unusedVariables false
namespace Go.V
open Go Go.Proofs

def cuts19:List Nat:=[17,35]
def H19 (E:Env) (S:Nat):Hand:=hnd E annA noHints [(63,C63),(64,C64),(33,C33 S)]
def stepsN (ls:List (List T)) (k:Nat):List Nat:=(List.range ls.length).map fun j => if k <= j then prodL (ls.drop (j + 1)) else 0
def N19:FnHint:=hAt [(6,2,Hint.s),(12,3,hEl 3 1),(12,4,hEl 3 1),(13,3,hSl),(14,3,hSl),(19,1,Hint.s),(23,2,hEl 3 1),(23,3,hEl 3 1),
 (28,4,hEl 3 1),(28,5,hAI),(28,6,Hint.s),(28,9,hSl),(28,13,Hint.s),
 (32,3,hEl 3 1),(32,4,hAI),(32,5,Hint.s),(32,8,hSl),(32,12,Hint.s),
 (33,3,hSl),(33,10,hSl),(33,13,hT),(33,17,hT),(33,31,hEl 3 1),(33,32,hAI),(33,34,hEl 3 1),(33,35,hAZ),
 (34,3,hEl 3 1),(34,4,hEl 3 1),(38,2,hEl 3 1),(38,3,hAZ),(40,3,hEl 3 1),(40,4,hAZ),(40,6,hEl 3 1),
 (41,4,hEl 3 1),(41,5,hAZ),(41,6,hEl 3 1),(41,7,hAI)]
def lsT (ls:List (List T)):TV:=.v (.slice 1 (lsV ls) .any)
/- the steps -/
structure Y19 where
 σ:State
 k:Nat
def F19s (ls:List (List T)) (out:List T) (all sum:Nat):List (Nat × TV):=[(0,lsT ls),(1,.v (slV out)),(8,.v (.rslice 0 0 ls.length)),(9,.v (.int .i64 (all:Int))),(10,.v (.int .i64 (sum:Int)))]
def ls19s (ls:List (List T)) (out:List T) (I:Y19 -> Prop):LS Y19 where
 F y:=(11,.v (.int .i64 ((y.k:Int) - 1))) :: F19s ls out (prodL (ls.drop y.k)) (sumL (ls.drop y.k))
 FL _:=[]
 S y:=y.σ
 I:=I
 μ y:=y.k
 Ex y e a σ:=match e with
  | .exit 0 => y.k = 0 /\ atF a (F19s ls out (prodL (ls.drop y.k)) (sumL (ls.drop y.k))) [] (y.σ.Le σ)
  | .ret => 20000 < prodL ls /\ atF a [(4,.v .nilslice),(5,.v (.bool false)),(6,.v (.int .i64 2))] [] True
  | _ => False
def part19s (P:Program):Code:=fnPart P cuts19 19 0
def part19a (P:Program):Code:=fnPart P cuts19 19 1
theorem fnParts_19:fnParts Tryz.prog cuts19 19 = [.loop (bodyOf (part19s Tryz.prog)),part19a Tryz.prog]:=by kernel_rfl
theorem headId_19:headId (.loop (bodyOf (part19s Tryz.prog))) = some 10 /\ headId (part19a Tryz.prog) = some 17:=by constructor <;> kernel_rfl
theorem vc19s (B:Nat) (w0:World) (G:Nat -> AV) (S:Nat) (ls:List (List T)) (out:List T) (I:Y19 -> Prop) (y:Y19):(wpX cuts19 (EV B w0 G) (H19 (EV B w0 G) S) (fun _ _ _ _ => False) (annA 19) N19 (bodyOf (part19s Tryz.prog)) ((ls19s ls out I).post y) (frm ((ls19s ls out I).F y) []) y.σ) =
 ((bcase (decide (((((Y19.k y:Nat):Int) - 1):Int) ≥ 0))
 (∃ a0:OE,(((State.objs (y.1) 0) = (AObj.cells (OE.cs a0) 3 1 (OE.g a0)))/\
 ((((0:Int) <= (((Y19.k y:Nat):Int) - 1))/\
 (((((Y19.k y:Nat):Int) - 1):Int) < (((List.length (ls)):Nat):Int)))/\
 (∃ a1:OE,(((State.objs (y.1) 0) = (AObj.cells (OE.cs a1) 3 1 (OE.g a1)))/\
 ((((((0 + (Int.toNat (((Y19.k y:Nat):Int) - 1))) * 1) + 1):Nat) <= (List.length (OE.cs a1)))/\
 ((((0:Int) <= (((Y19.k y:Nat):Int) - 1))/\
 (((((Y19.k y:Nat):Int) - 1):Int) < (((List.length (lsV ls)):Nat):Int)))/\
 (∃ x2:List T,(((AV.vptr (AV.cells (List.getD (lsV ls) (Int.toNat ((↑(Y19.k y):Int) - 1)) AV.undef))) = (AV.vptr [(AV.slice 4 (tcellL x2) Cap.any)]))/\
 ((((0:Int) <= (((Y19.k y:Nat):Int) - 1))/\
 (((((Y19.k y:Nat):Int) - 1):Int) < (((List.length (lsV ls)):Nat):Int)))/\
 (∃ x3:List T,(((AV.vptr (AV.cells (List.getD (lsV ls) (Int.toNat ((↑(Y19.k y):Int) - 1)) AV.undef))) = (AV.vptr [(AV.slice 4 (tcellL x3) Cap.any)]))/\
 (bcase (decide (((IntKind.wrap .i64 ((((prodL (List.drop (Y19.k y) ls)):Nat):Int) * (IntKind.wrap .i64 ((((List.length (tcellL x2)):Nat):Int) + 1)))):Int) > 20000))
 (((20000:Nat) < (prodL ls))/\
 ((Rf (TV.v AV.nilslice))/\
 ((Rf (TV.v (AV.bool false)))/\
 ((Rf (TV.v (AV.int .i64 2)))/\
 True))))
 (∃ x'4:Y19,(((I (x'4))/\
 (((LS.μ (ls19s ls out I) x'4):Nat) < (LS.μ (ls19s ls out I) y)))/\
 (((TV.v (AV.int .i64 (IntKind.wrap .i64 ((((Y19.k y:Nat):Int) - 1) - 1)))) = (TV.v (AV.int .i64 (((Y19.k x'4:Nat):Int) - 1))))/\
 ((Rf (TV.v (AV.slice 1 (lsV ls) Cap.any)))/\
 ((Rf (TV.v (AV.slice 4 (tcellL out) Cap.any)))/\
 ((Rf (TV.v (AV.rslice 0 0 (List.length (ls)))))/\
 (((TV.v (AV.int .i64 (IntKind.wrap .i64 ((((prodL (List.drop (Y19.k y) ls)):Nat):Int) * (IntKind.wrap .i64 ((((List.length (tcellL x2)):Nat):Int) + 1)))))) = (TV.v (AV.int .i64 (((prodL (List.drop (Y19.k x'4) ls)):Nat):Int))))/\
 (((TV.v (AV.int .i64 (IntKind.wrap .i64 ((((sumL (List.drop (Y19.k y) ls)):Nat):Int) + (((List.length (tcellL x3)):Nat):Int))))) = (TV.v (AV.int .i64 (((sumL (List.drop (Y19.k x'4) ls)):Nat):Int))))/\
 (State.Le ((ls19s ls out I).3 x'4) (State.set (y.1) 0 (AObj.cells (asplice (OE.cs a1) ((0 + (Int.toNat (((Y19.k y:Nat):Int) - 1))) * 1) [(AV.int .i64 (((prodL (List.drop (Y19.k y) ls)):Nat):Int))]) 3 1 (OE.g a1)))))))))))))))))))))))))
 (((Y19.k y:Nat) = 0)/\
 ((Rf (TV.v (AV.slice 1 (lsV ls) Cap.any)))/\
 ((Rf (TV.v (AV.slice 4 (tcellL out) Cap.any)))/\
 ((Rf (TV.v (AV.rslice 0 0 (List.length (ls)))))/\
 ((Rf (TV.v (AV.int .i64 (((prodL (List.drop (Y19.k y) ls)):Nat):Int))))/\
 ((Rf (TV.v (AV.int .i64 (((sumL (List.drop (Y19.k y) ls)):Nat):Int))))/\
 (State.Le (y.1) (y.1)))))))))):=by kernel_rfl
def T19s (ls:List (List T)) (out:List T) (I:Y19 -> Prop) (R:State -> Prop):LHand:=fun _ Q a σ => ∃ y:Y19,I y /\ atF a ((ls19s ls out I).F y) [] (y.σ.Le σ) /\
 ((∀ σ':State,R σ' -> Q (.exit 0) (frm (F19s ls out (prodL ls) (sumL ls)) []) σ') /\ (∀ σ':State,20000 < prodL ls -> Q .ret (frm [(4,.v .nilslice),(5,.v (.bool false)),(6,.v (.int .i64 2))] []) σ'))
theorem vc19 (B:Nat) (w0:World) (G:Nat -> AV) (S:Nat) (ls:List (List T)) (out:List T) (I:Y19 -> Prop) (Rs P:State -> Prop) (R:AV -> Bool -> Int -> State -> Prop) (Q:AV -> State -> Prop):(bodyX cuts19 (EV B w0 G) (H19 (EV B w0 G) S) (handL [(10,T19s ls out I Rs),(17,T18p (F19s ls out (prodL ls) (sumL ls)) P R)]) annA N19 19 [.slice 1 (lsV ls) .any,slV out] noObj Q) =
 ((∃ ls0:List (List T),(([(AV.slice 1 (lsV ls) Cap.any)] = [(AV.slice 1 (lsV ls0) Cap.any)])/\
 (((((List.length (ls0)):Nat) <= 1000)/\
 (∀ l1:List T,((l1 ∈ ls0) -> ((((List.length (l1)):Nat) <= 1000000)/\
 (∀ x2:T,((x2 ∈ l1) -> ((T.bulk x2:Nat) <= 1099511627776)))))))/\
 (bcase (((listsE ls0):Int) != 0)
 (Q (AV.tuple [AV.nilslice,(AV.bool false),(AV.int .i64 (listsE ls0))]) (State.untok (noObj)))
 (∃ l1:List T,(([(AV.slice 4 (tcellL out) Cap.any)] = [(AV.slice 4 (tcellL l1) Cap.any)])/\
 (((((List.length (l1)):Nat) <= 1000000)/\
 (∀ x2:T,((x2 ∈ l1) -> ((T.bulk x2:Nat) <= 1099511627776))))/\
 (bcase (!(List.all l1 grT))
 (Q (AV.tuple [AV.nilslice,(AV.bool false),(AV.int .i64 3)]) (State.untok (State.untok (noObj))))
 ((((0:Int) <= (((List.length (lsV ls)):Nat):Int))/\
 ((((((List.length (lsV ls)):Nat):Int):Int) <= (((List.length (lsV ls)):Nat):Int))/\
 ((((8 * (((List.length (lsV ls)):Nat):Int)):Int) <= 140737488355328)/\
 (((((List.length (lsV ls)):Nat):Int):Int) <= 4611686018427387904))))/\
 (∃ y2:Y19,((I (y2))/\
 ((((TV.v (AV.int .i64 (IntKind.wrap .i64 ((((List.length (lsV ls)):Nat):Int) - 1)))) = (TV.v (AV.int .i64 (((Y19.k y2:Nat):Int) - 1))))/\
 ((Rf (TV.v (AV.slice 1 (lsV ls) Cap.any)))/\
 ((Rf (TV.v (AV.slice 4 (tcellL out) Cap.any)))/\
 (((TV.v (AV.rslice 0 0 (Int.toNat (((List.length (lsV ls)):Nat):Int)))) = (TV.v (AV.rslice 0 0 (List.length (ls)))))/\
 (((TV.v (AV.int .i64 1)) = (TV.v (AV.int .i64 (((prodL (List.drop (Y19.k y2) ls)):Nat):Int))))/\
 (((TV.v (AV.int .i64 0)) = (TV.v (AV.int .i64 (((sumL (List.drop (Y19.k y2) ls)):Nat):Int))))/\
 (State.Le (y2.1) (State.new (State.untok (State.untok (noObj))) (AObj.cells (List.flatten (List.replicate (Int.toNat (↑(List.length (lsV ls)):Int)) (AV.cells (av (Go.Value.int IntKind.i64 0))))) 3 1 false)))))))))/\
 ((∀ σ'3:State,((Rs σ'3) -> (∃ σ04:State,((P σ04)/\
 (((Rf (TV.v (AV.slice 1 (lsV ls) Cap.any)))/\
 ((Rf (TV.v (AV.slice 4 (tcellL out) Cap.any)))/\
 ((Rf (TV.v (AV.rslice 0 0 (List.length (ls)))))/\
 ((Rf (TV.v (AV.int .i64 ((prodL ls:Nat):Int))))/\
 ((Rf (TV.v (AV.int .i64 ((sumL ls:Nat):Int))))/\
 (State.Le σ04 σ'3))))))/\
 (∀ v5:AV,(∀ b6:Bool,(∀ err7:Int,(∀ σ'8:State,((R (v5) (b6) (err7) σ'8) -> (Q (AV.tuple [(v5),(AV.bool (b6)),(AV.int .i64 (err7))]) σ'8)))))))))))/\
 (∀ σ'3:State,(((20000:Nat) < (prodL ls)) -> (Q (AV.tuple [AV.nilslice,(AV.bool false),(AV.int .i64 2)]) σ'3))))))))))))))))):=by kernel_rfl
end Go.V
/- Conditions: the reference's Check, its table and what it reads off. -/
namespace Go.V
open Go Go.Proofs

def F19b (ls:List (List T)) (out:List T):List (Nat × TV):=[(0,lsT ls),(1,.v (slV out)),(8,.v (.rslice 0 0 ls.length)),(10,.v (.int .i64 (sumL ls:Int))),(12,.v (.rslice 1 0 (prodL ls)))]
def F19p (ls:List (List T)) (out:List T) (p:List Nat):List (Nat × TV):=(13,.v (.int .i64 (codeR ls p:Int))) :: F19b ls out
def part19t (P:Program):Code:=((partsIn cuts19 (part19a P))[0]?).getD .skip
def part19b (P:Program):Code:=((partsIn cuts19 (part19a P))[1]?).getD .skip
def part19d (P:Program):Code:=((partsIn cuts19 (bodyOf (part19t P)))[0]?).getD .skip
def part19q (P:Program):Code:=((partsIn cuts19 (bodyOf (part19t P)))[1]?).getD .skip
def part19l (P:Program):Code:=((partsIn cuts19 (part19b P))[0]?).getD .skip
theorem partsIn_19a:partsIn cuts19 (part19a Tryz.prog) = [.loop (bodyOf (part19t Tryz.prog)),part19b Tryz.prog]:=by kernel_rfl
theorem partsIn_19t:partsIn cuts19 (bodyOf (part19t Tryz.prog)) = [.loop (bodyOf (part19d Tryz.prog)),.loop (bodyOf (part19q Tryz.prog))]:=by kernel_rfl
theorem partsIn_19b:partsIn cuts19 (part19b Tryz.prog) = [.loop (bodyOf (part19l Tryz.prog))]:=by kernel_rfl
theorem headId_19a:headId (.loop (bodyOf (part19t Tryz.prog))) = some 21 /\ headId (part19b Tryz.prog) = some 35:=by constructor <;> kernel_rfl
theorem headId_19t:headId (.loop (bodyOf (part19d Tryz.prog))) = some 26 /\ headId (.loop (bodyOf (part19q Tryz.prog))) = some 30 /\ headId (.loop (bodyOf (part19l Tryz.prog))) = some 37:=by refine ⟨?_,?_,?_⟩ <;> kernel_rfl
/- the digits -/
def ls19d (ls:List (List T)) (out:List T) (p:List Nat) (σ:State):LS Nat where
 F i:=(15,.v (.int .i64 (i:Int))) :: (14,.v (.int .i64 ((p.take i).sum:Int))) :: F19p ls out p
 FL _:=[]
 S _:=σ
 I i:=i <= ls.length
 μ i:=ls.length - i
 Ex i e a σ':=match e with
  | .exit 4 => ¬ (i < ls.length) /\ atF a ((14,.v (.int .i64 ((p.take i).sum:Int))) :: F19p ls out p) [] (σ.Le σ')
  | _ => False
theorem vc19d (B:Nat) (w0:World) (G:Nat -> AV) (S:Nat) (ls:List (List T)) (out:List T) (p:List Nat) (σ:State) (i:Nat):(wpX cuts19 (EV B w0 G) (H19 (EV B w0 G) S) (fun _ _ _ _ => False) (annA 19) N19 (bodyOf (part19d Tryz.prog)) ((ls19d ls out p σ).post i) (frm ((ls19d ls out p σ).F i) []) σ) =
 ((bcase (decide ((((i:Nat):Int):Int) < (((List.length (lsV ls)):Nat):Int)))
 (∃ a0:OE,(((State.objs σ 0) = (AObj.cells (OE.cs a0) 3 1 (OE.g a0)))/\
 ((((0:Int) <= ((i:Nat):Int))/\
 ((((i:Nat):Int):Int) < (((List.length (ls)):Nat):Int)))/\
 (∃ a1:OE,(((State.objs σ 0) = (AObj.cells (OE.cs a1) 3 1 (OE.g a1)))/\
 (((((0 + (Int.toNat ((i:Nat):Int))) * 1):Nat) < (List.length (OE.cs a1)))/\
 (∃ x2:Nat,(((List.getD (OE.cs a1) ((0 + Int.toNat (↑i:Int)) * 1) AV.undef) = (AV.int .i64 ((x2:Nat):Int)))/\
 (((((x2:Nat):Int):Int) ≠ 0)/\
 ((((0:Int) <= ((i:Nat):Int))/\
 ((((i:Nat):Int):Int) < (((List.length (lsV ls)):Nat):Int)))/\
 (∃ x3:List T,(((AV.vptr (AV.cells (List.getD (lsV ls) (Int.toNat (↑i:Int)) AV.undef))) = (AV.vptr [(AV.slice 4 (tcellL x3) Cap.any)]))/\
 ((((IntKind.wrap .i64 ((((List.length (tcellL x3)):Nat):Int) + 1)):Int) ≠ 0)/\
 (∃ x'4:Nat,(((LS.I (ls19d ls out p σ) x'4)/\
 (((LS.μ (ls19d ls out p σ) x'4):Nat) < (LS.μ (ls19d ls out p σ) i)))/\
 (((TV.v (AV.int .i64 (IntKind.wrap .i64 (((i:Nat):Int) + 1)))) = (TV.v (AV.int .i64 (((x'4):Nat):Int))))/\
 (((TV.v (AV.int .i64 (IntKind.wrap .i64 ((((List.sum (List.take i p)):Nat):Int) + (Int.tmod (IntKind.wrap .i64 (Int.tdiv (↑(codeR ls p):Int) (↑x2:Int))) (IntKind.wrap .i64 ((↑(List.length (tcellL x3)):Int) + 1))))))) = (TV.v (AV.int .i64 (((List.sum (List.take x'4 p)):Nat):Int))))/\
 ((Rf (TV.v (AV.int .i64 ((codeR ls p:Nat):Int))))/\
 ((Rf (TV.v (AV.slice 1 (lsV ls) Cap.any)))/\
 ((Rf (TV.v (AV.slice 4 (tcellL out) Cap.any)))/\
 ((Rf (TV.v (AV.rslice 0 0 (List.length (ls)))))/\
 ((Rf (TV.v (AV.int .i64 ((sumL ls:Nat):Int))))/\
 ((Rf (TV.v (AV.rslice 1 0 (prodL ls))))/\
 (State.Le ((ls19d ls out p σ).3 x'4) σ))))))))))))))))))))))))
 (((((i):Nat) < (List.length (ls))) -> False)/\
 ((Rf (TV.v (AV.int .i64 (((List.sum (List.take i p)):Nat):Int))))/\
 ((Rf (TV.v (AV.int .i64 ((codeR ls p:Nat):Int))))/\
 ((Rf (TV.v (AV.slice 1 (lsV ls) Cap.any)))/\
 ((Rf (TV.v (AV.slice 4 (tcellL out) Cap.any)))/\
 ((Rf (TV.v (AV.rslice 0 0 (List.length (ls)))))/\
 ((Rf (TV.v (AV.int .i64 ((sumL ls:Nat):Int))))/\
 ((Rf (TV.v (AV.rslice 1 0 (prodL ls))))/\
 (State.Le σ σ))))))))))):=by kernel_rfl
def T19d (ls:List (List T)) (out:List T) (P:List Nat -> State -> Prop):LHand:=fun _ Q a σ => ∃ (p:List Nat) (σ0:State),P p σ0 /\ atF a ((ls19d ls out p σ0).F 0) [] (σ0.Le σ) /\ Q (.exit 4) (frm ((14,.v (.int .i64 (p.sum:Int))) :: F19p ls out p) []) σ0
/- which list goes on -/
def ls19q (ls:List (List T)) (out:List T) (p:List Nat) (I:Y19 -> Prop):LS Y19 where
 F y:=(16,.v (.int .i64 ((y.k:Int) - 1))) :: (14,.v (.int .i64 (p.sum:Int))) :: F19p ls out p
 FL _:=[]
 S y:=y.σ
 I:=I
 μ y:=y.k
 Ex y e a σ':=match e with
  | .exit 6 => (y.k = 0 \/ ¬ (p.sum < sumL ls)) /\ atF a (F19p ls out p) [] (y.σ.Le σ')
  | _ => False
theorem vc19q (B:Nat) (w0:World) (G:Nat -> AV) (S:Nat) (ls:List (List T)) (out:List T) (p:List Nat) (I:Y19 -> Prop) (y:Y19):(wpX cuts19 (EV B w0 G) (H19 (EV B w0 G) S) (fun _ _ _ _ => False) (annA 19) N19 (bodyOf (part19q Tryz.prog)) ((ls19q ls out p I).post y) (frm ((ls19q ls out p I).F y) []) y.σ) =
 ((bcase (decide (((((Y19.k y:Nat):Int) - 1):Int) ≥ 0))
 (bcase (decide ((((List.sum p:Nat):Int):Int) < ((sumL ls:Nat):Int)))
 (∃ a0:OE,(((State.objs (y.1) 0) = (AObj.cells (OE.cs a0) 3 1 (OE.g a0)))/\
 ((((0:Int) <= (((Y19.k y:Nat):Int) - 1))/\
 (((((Y19.k y:Nat):Int) - 1):Int) < (((List.length (ls)):Nat):Int)))/\
 (∃ a1:OE,(((State.objs (y.1) 0) = (AObj.cells (OE.cs a1) 3 1 (OE.g a1)))/\
 (((((0 + (Int.toNat (((Y19.k y:Nat):Int) - 1))) * 1):Nat) < (List.length (OE.cs a1)))/\
 (∃ x2:Nat,(((List.getD (OE.cs a1) ((0 + Int.toNat ((↑(Y19.k y):Int) - 1)) * 1) AV.undef) = (AV.int .i64 ((x2:Nat):Int)))/\
 (((((x2:Nat):Int):Int) ≠ 0)/\
 ((((0:Int) <= (((Y19.k y:Nat):Int) - 1))/\
 (((((Y19.k y:Nat):Int) - 1):Int) < (((List.length (lsV ls)):Nat):Int)))/\
 (∃ x3:List T,(((AV.vptr (AV.cells (List.getD (lsV ls) (Int.toNat ((↑(Y19.k y):Int) - 1)) AV.undef))) = (AV.vptr [(AV.slice 4 (tcellL x3) Cap.any)]))/\
 ((((IntKind.wrap .i64 ((((List.length (tcellL x3)):Nat):Int) + 1)):Int) ≠ 0)/\
 ((((0:Int) <= (((Y19.k y:Nat):Int) - 1))/\
 (((((Y19.k y:Nat):Int) - 1):Int) < (((List.length (lsV ls)):Nat):Int)))/\
 (∃ x4:List T,(((AV.vptr (AV.cells (List.getD (lsV ls) (Int.toNat ((↑(Y19.k y):Int) - 1)) AV.undef))) = (AV.vptr [(AV.slice 4 (tcellL x4) Cap.any)]))/\
 (bcase (decide (((Int.tmod (IntKind.wrap .i64 (Int.tdiv (↑(codeR ls p):Int) (↑x2:Int))) (IntKind.wrap .i64 ((↑(List.length (tcellL x3)):Int) + 1))):Int) < (((List.length (tcellL x4)):Nat):Int)))
 ((((0:Int) <= (((Y19.k y:Nat):Int) - 1))/\
 (((((Y19.k y:Nat):Int) - 1):Int) < (((List.length (lsV ls)):Nat):Int)))/\
 (∃ x5:List T,(((AV.vptr (AV.cells (List.getD (lsV ls) (Int.toNat ((↑(Y19.k y):Int) - 1)) AV.undef))) = (AV.vptr [(AV.slice 4 (tcellL x5) Cap.any)]))/\
 ((((0:Int) <= (Int.tmod (IntKind.wrap .i64 (Int.tdiv (↑(codeR ls p):Int) (↑x2:Int))) (IntKind.wrap .i64 ((↑(List.length (tcellL x3)):Int) + 1))))/\
 (((Int.tmod (IntKind.wrap .i64 (Int.tdiv (↑(codeR ls p):Int) (↑x2:Int))) (IntKind.wrap .i64 ((↑(List.length (tcellL x3)):Int) + 1))):Int) < (((List.length (tcellL x5)):Nat):Int)))/\
 (∃ x6:T,(((AV.vptr (AV.cells (List.getD (tcellL x5) (Int.toNat (Int.tmod (IntKind.wrap .i64 (Int.tdiv (↑(codeR ls p):Int) (↑x2:Int))) (IntKind.wrap .i64 ((↑(List.length (tcellL x3)):Int) + 1)))) AV.undef))) = (AV.vptr [(AV.int .i64 (T.k x6)),(AV.int .i64 (T.n x6)),(AV.str (T.s x6)),(AV.slice 4 (tcellL (T.l x6)) Cap.any)]))/\
 ((((0:Int) <= ((List.sum p:Nat):Int))/\
 ((((List.sum p:Nat):Int):Int) < (((List.length (tcellL out)):Nat):Int)))/\
 (∃ x7:T,(((AV.vptr (AV.cells (List.getD (tcellL out) (Int.toNat (↑(List.sum p):Int)) AV.undef))) = (AV.vptr [(AV.int .i64 (T.k x7)),(AV.int .i64 (T.n x7)),(AV.str (T.s x7)),(AV.slice 4 (tcellL (T.l x7)) Cap.any)]))/\
 (∃ a8:T,(∃ b9:T,(([(AV.agg [(AV.int .i64 (T.k x6)),(AV.int .i64 (T.n x6)),(AV.str (T.s x6)),(AV.slice 4 (tcellL (T.l x6)) Cap.any)]),(AV.agg [(AV.int .i64 (T.k x7)),(AV.int .i64 (T.n x7)),(AV.str (T.s x7)),(AV.slice 4 (tcellL (T.l x7)) Cap.any)])] = [(AV.agg [(AV.int .i64 (T.k a8)),(AV.int .i64 (T.n a8)),(AV.str (T.s a8)),(AV.slice 4 (tcellL (T.l a8)) Cap.any)]),(AV.agg [(AV.int .i64 (T.k b9)),(AV.int .i64 (T.n b9)),(AV.str (T.s b9)),(AV.slice 4 (tcellL (T.l b9)) Cap.any)])])/\
 (((T.small a8)/\
 ((SizeOf.sizeOf a8:Nat) < (S)))/\
 (bcase (same a8 b9)
 (bcase (((IntKind.wrap .i64 (((List.sum p:Nat):Int) + 1)):Int) == ((sumL ls:Nat):Int))
 (∃ a10:OE,(((State.objs (State.untok (y.1)) 1) = (AObj.cells (OE.cs a10) 3 1 (OE.g a10)))/\
 ((((0:Int) <= ((codeR ls p:Nat):Int))/\
 ((((codeR ls p:Nat):Int):Int) < ((prodL ls:Nat):Int)))/\
 (∃ a11:OE,(((State.objs (State.untok (y.1)) 1) = (AObj.cells (OE.cs a11) 3 1 (OE.g a11)))/\
 ((((((0 + (Int.toNat ((codeR ls p:Nat):Int))) * 1) + 1):Nat) <= (List.length (OE.cs a11)))/\
 (∃ x'12:Y19,(((I (x'12))/\
 (((LS.μ (ls19q ls out p I) x'12):Nat) < (LS.μ (ls19q ls out p I) y)))/\
 (((TV.v (AV.int .i64 (IntKind.wrap .i64 ((((Y19.k y:Nat):Int) - 1) - 1)))) = (TV.v (AV.int .i64 (((Y19.k x'12:Nat):Int) - 1))))/\
 ((Rf (TV.v (AV.int .i64 ((List.sum p:Nat):Int))))/\
 ((Rf (TV.v (AV.int .i64 ((codeR ls p:Nat):Int))))/\
 ((Rf (TV.v (AV.slice 1 (lsV ls) Cap.any)))/\
 ((Rf (TV.v (AV.slice 4 (tcellL out) Cap.any)))/\
 ((Rf (TV.v (AV.rslice 0 0 (List.length (ls)))))/\
 ((Rf (TV.v (AV.int .i64 ((sumL ls:Nat):Int))))/\
 ((Rf (TV.v (AV.rslice 1 0 (prodL ls))))/\
 (State.Le ((ls19q ls out p I).3 x'12) (State.set (State.untok (y.1)) 1 (AObj.cells (asplice (OE.cs a11) ((0 + (Int.toNat ((codeR ls p:Nat):Int))) * 1) [(AV.int .i64 (((Y19.k y:Nat):Int) - 1))]) 3 1 (OE.g a11))))))))))))))))))))
 (∃ a10:OE,(((State.objs (State.untok (y.1)) 0) = (AObj.cells (OE.cs a10) 3 1 (OE.g a10)))/\
 ((((0:Int) <= (((Y19.k y:Nat):Int) - 1))/\
 (((((Y19.k y:Nat):Int) - 1):Int) < (((List.length (ls)):Nat):Int)))/\
 (∃ a11:OE,(((State.objs (State.untok (y.1)) 0) = (AObj.cells (OE.cs a11) 3 1 (OE.g a11)))/\
 (((((0 + (Int.toNat (((Y19.k y:Nat):Int) - 1))) * 1):Nat) < (List.length (OE.cs a11)))/\
 (∃ x12:Nat,(((List.getD (OE.cs a11) ((0 + Int.toNat ((↑(Y19.k y):Int) - 1)) * 1) AV.undef) = (AV.int .i64 ((x12:Nat):Int)))/\
 (∃ a13:OE,(((State.objs (State.untok (y.1)) 1) = (AObj.cells (OE.cs a13) 3 1 (OE.g a13)))/\
 ((((0:Int) <= (IntKind.wrap .i64 (((codeR ls p:Nat):Int) + ((x12:Nat):Int))))/\
 (((IntKind.wrap .i64 (((codeR ls p:Nat):Int) + ((x12:Nat):Int))):Int) < ((prodL ls:Nat):Int)))/\
 (∃ a14:OE,(((State.objs (State.untok (y.1)) 1) = (AObj.cells (OE.cs a14) 3 1 (OE.g a14)))/\
 (((((0 + (Int.toNat (IntKind.wrap .i64 (((codeR ls p:Nat):Int) + ((x12:Nat):Int))))) * 1):Nat) < (List.length (OE.cs a14)))/\
 (∃ x15:Int,(((List.getD (OE.cs a14) ((0 + Int.toNat (IntKind.wrap .i64 ((↑(codeR ls p):Int) + (↑x12:Int)))) * 1) AV.undef) = (AV.int .i64 (x15)))/\
 (bcase (decide (((x15):Int) ≥ 0))
 (∃ a16:OE,(((State.objs (State.untok (y.1)) 1) = (AObj.cells (OE.cs a16) 3 1 (OE.g a16)))/\
 ((((0:Int) <= ((codeR ls p:Nat):Int))/\
 ((((codeR ls p:Nat):Int):Int) < ((prodL ls:Nat):Int)))/\
 (∃ a17:OE,(((State.objs (State.untok (y.1)) 1) = (AObj.cells (OE.cs a17) 3 1 (OE.g a17)))/\
 ((((((0 + (Int.toNat ((codeR ls p:Nat):Int))) * 1) + 1):Nat) <= (List.length (OE.cs a17)))/\
 (∃ x'18:Y19,(((I (x'18))/\
 (((LS.μ (ls19q ls out p I) x'18):Nat) < (LS.μ (ls19q ls out p I) y)))/\
 (((TV.v (AV.int .i64 (IntKind.wrap .i64 ((((Y19.k y:Nat):Int) - 1) - 1)))) = (TV.v (AV.int .i64 (((Y19.k x'18:Nat):Int) - 1))))/\
 ((Rf (TV.v (AV.int .i64 ((List.sum p:Nat):Int))))/\
 ((Rf (TV.v (AV.int .i64 ((codeR ls p:Nat):Int))))/\
 ((Rf (TV.v (AV.slice 1 (lsV ls) Cap.any)))/\
 ((Rf (TV.v (AV.slice 4 (tcellL out) Cap.any)))/\
 ((Rf (TV.v (AV.rslice 0 0 (List.length (ls)))))/\
 ((Rf (TV.v (AV.int .i64 ((sumL ls:Nat):Int))))/\
 ((Rf (TV.v (AV.rslice 1 0 (prodL ls))))/\
 (State.Le ((ls19q ls out p I).3 x'18) (State.set (State.untok (y.1)) 1 (AObj.cells (asplice (OE.cs a17) ((0 + (Int.toNat ((codeR ls p:Nat):Int))) * 1) [(AV.int .i64 (((Y19.k y:Nat):Int) - 1))]) 3 1 (OE.g a17))))))))))))))))))))
 (∃ x'16:Y19,(((I (x'16))/\
 (((LS.μ (ls19q ls out p I) x'16):Nat) < (LS.μ (ls19q ls out p I) y)))/\
 (((TV.v (AV.int .i64 (IntKind.wrap .i64 ((((Y19.k y:Nat):Int) - 1) - 1)))) = (TV.v (AV.int .i64 (((Y19.k x'16:Nat):Int) - 1))))/\
 ((Rf (TV.v (AV.int .i64 ((List.sum p:Nat):Int))))/\
 ((Rf (TV.v (AV.int .i64 ((codeR ls p:Nat):Int))))/\
 ((Rf (TV.v (AV.slice 1 (lsV ls) Cap.any)))/\
 ((Rf (TV.v (AV.slice 4 (tcellL out) Cap.any)))/\
 ((Rf (TV.v (AV.rslice 0 0 (List.length (ls)))))/\
 ((Rf (TV.v (AV.int .i64 ((sumL ls:Nat):Int))))/\
 ((Rf (TV.v (AV.rslice 1 0 (prodL ls))))/\
 (State.Le ((ls19q ls out p I).3 x'16) (State.untok (y.1)))))))))))))))))))))))))))))))
 (∃ x'10:Y19,(((I (x'10))/\
 (((LS.μ (ls19q ls out p I) x'10):Nat) < (LS.μ (ls19q ls out p I) y)))/\
 (((TV.v (AV.int .i64 (IntKind.wrap .i64 ((((Y19.k y:Nat):Int) - 1) - 1)))) = (TV.v (AV.int .i64 (((Y19.k x'10:Nat):Int) - 1))))/\
 ((Rf (TV.v (AV.int .i64 ((List.sum p:Nat):Int))))/\
 ((Rf (TV.v (AV.int .i64 ((codeR ls p:Nat):Int))))/\
 ((Rf (TV.v (AV.slice 1 (lsV ls) Cap.any)))/\
 ((Rf (TV.v (AV.slice 4 (tcellL out) Cap.any)))/\
 ((Rf (TV.v (AV.rslice 0 0 (List.length (ls)))))/\
 ((Rf (TV.v (AV.int .i64 ((sumL ls:Nat):Int))))/\
 ((Rf (TV.v (AV.rslice 1 0 (prodL ls))))/\
 (State.Le ((ls19q ls out p I).3 x'10) (State.untok (y.1)))))))))))))))))))))))))))
 (∃ x'5:Y19,(((I (x'5))/\
 (((LS.μ (ls19q ls out p I) x'5):Nat) < (LS.μ (ls19q ls out p I) y)))/\
 (((TV.v (AV.int .i64 (IntKind.wrap .i64 ((((Y19.k y:Nat):Int) - 1) - 1)))) = (TV.v (AV.int .i64 (((Y19.k x'5:Nat):Int) - 1))))/\
 ((Rf (TV.v (AV.int .i64 ((List.sum p:Nat):Int))))/\
 ((Rf (TV.v (AV.int .i64 ((codeR ls p:Nat):Int))))/\
 ((Rf (TV.v (AV.slice 1 (lsV ls) Cap.any)))/\
 ((Rf (TV.v (AV.slice 4 (tcellL out) Cap.any)))/\
 ((Rf (TV.v (AV.rslice 0 0 (List.length (ls)))))/\
 ((Rf (TV.v (AV.int .i64 ((sumL ls:Nat):Int))))/\
 ((Rf (TV.v (AV.rslice 1 0 (prodL ls))))/\
 (State.Le ((ls19q ls out p I).3 x'5) (y.1)))))))))))))))))))))))))))))
 ((((Y19.k y:Nat) = 0) \/ (((List.sum p:Nat) < (sumL ls)) -> False))/\
 ((Rf (TV.v (AV.int .i64 ((codeR ls p:Nat):Int))))/\
 ((Rf (TV.v (AV.slice 1 (lsV ls) Cap.any)))/\
 ((Rf (TV.v (AV.slice 4 (tcellL out) Cap.any)))/\
 ((Rf (TV.v (AV.rslice 0 0 (List.length (ls)))))/\
 ((Rf (TV.v (AV.int .i64 ((sumL ls:Nat):Int))))/\
 ((Rf (TV.v (AV.rslice 1 0 (prodL ls))))/\
 (State.Le (y.1) (y.1))))))))))
 ((((Y19.k y:Nat) = 0) \/ (((List.sum p:Nat) < (sumL ls)) -> False))/\
 ((Rf (TV.v (AV.int .i64 ((codeR ls p:Nat):Int))))/\
 ((Rf (TV.v (AV.slice 1 (lsV ls) Cap.any)))/\
 ((Rf (TV.v (AV.slice 4 (tcellL out) Cap.any)))/\
 ((Rf (TV.v (AV.rslice 0 0 (List.length (ls)))))/\
 ((Rf (TV.v (AV.int .i64 ((sumL ls:Nat):Int))))/\
 ((Rf (TV.v (AV.rslice 1 0 (prodL ls))))/\
 (State.Le (y.1) (y.1))))))))))):=by kernel_rfl
def T19q (ls:List (List T)) (out:List T) (P R:List Nat -> State -> Prop):LHand:=fun _ Q a σ => ∃ (p:List Nat) (σ0:State),P p σ0 /\ atF a ((ls19q ls out p (fun _ => True)).F ⟨σ0,ls.length⟩) [] (σ0.Le σ) /\
 ∀ σ':State,R p σ' -> Q (.exit 6) (frm (F19p ls out p) []) σ'
/- the table -/
def ls19t (ls:List (List T)) (out:List T) (I:Y19 -> Prop):LS Y19 where
 F y:=(13,.v (.int .i64 ((y.k:Int) - 1))) :: F19b ls out
 FL _:=[]
 S y:=y.σ
 I:=I
 μ y:=y.k
 Ex y e a σ':=match e with
  | .exit 2 => y.k = 0 /\ atF a (F19b ls out) [] (y.σ.Le σ')
  | _ => False
theorem vc19t (B:Nat) (w0:World) (G:Nat -> AV) (S:Nat) (ls:List (List T)) (out:List T) (Pd Pq Rq:List Nat -> State -> Prop) (I:Y19 -> Prop) (y:Y19):(wpX cuts19 (EV B w0 G) (H19 (EV B w0 G) S) (handL [(26,T19d ls out Pd),(30,T19q ls out Pq Rq)]) (annA 19) N19 (bodyOf (part19t Tryz.prog)) ((ls19t ls out I).post y) (frm ((ls19t ls out I).F y) []) y.σ) =
 ((bcase (decide (((((Y19.k y:Nat):Int) - 1):Int) ≥ 0))
 (∃ a0:OE,(((State.objs (y.1) 1) = (AObj.cells (OE.cs a0) 3 1 (OE.g a0)))/\
 ((((0:Int) <= (((Y19.k y:Nat):Int) - 1))/\
 (((((Y19.k y:Nat):Int) - 1):Int) < ((prodL ls:Nat):Int)))/\
 (∃ a1:OE,(((State.objs (y.1) 1) = (AObj.cells (OE.cs a1) 3 1 (OE.g a1)))/\
 ((((((0 + (Int.toNat (((Y19.k y:Nat):Int) - 1))) * 1) + 1):Nat) <= (List.length (OE.cs a1)))/\
 (∃ p2:List Nat,(∃ σ03:State,((Pd (p2) σ03)/\
 (((Rf (TV.v (AV.int .i64 0)))/\
 ((Rf (TV.v (AV.int .i64 0)))/\
 (((TV.v (AV.int .i64 (((Y19.k y:Nat):Int) - 1))) = (TV.v (AV.int .i64 ((codeR ls p2:Nat):Int))))/\
 ((Rf (TV.v (AV.slice 1 (lsV ls) Cap.any)))/\
 ((Rf (TV.v (AV.slice 4 (tcellL out) Cap.any)))/\
 ((Rf (TV.v (AV.rslice 0 0 (List.length (ls)))))/\
 ((Rf (TV.v (AV.int .i64 ((sumL ls:Nat):Int))))/\
 ((Rf (TV.v (AV.rslice 1 0 (prodL ls))))/\
 (State.Le σ03 (State.set (y.1) 1 (AObj.cells (asplice (OE.cs a1) ((0 + (Int.toNat (((Y19.k y:Nat):Int) - 1))) * 1) [(AV.int .i64 (-1))]) 3 1 (OE.g a1))))))))))))/\
 (∃ p4:List Nat,(∃ σ05:State,((Pq (p4) σ05)/\
 ((((TV.v (AV.int .i64 (IntKind.wrap .i64 ((((List.length (lsV ls)):Nat):Int) - 1)))) = (TV.v (AV.int .i64 ((((Y19.k { σ:=σ05,k:=List.length ls }):Nat):Int) - 1))))/\
 (((TV.v (AV.int .i64 ((List.sum p2:Nat):Int))) = (TV.v (AV.int .i64 ((List.sum p4:Nat):Int))))/\
 (((TV.v (AV.int .i64 ((codeR ls p2:Nat):Int))) = (TV.v (AV.int .i64 ((codeR ls p4:Nat):Int))))/\
 ((Rf (TV.v (AV.slice 1 (lsV ls) Cap.any)))/\
 ((Rf (TV.v (AV.slice 4 (tcellL out) Cap.any)))/\
 ((Rf (TV.v (AV.rslice 0 0 (List.length (ls)))))/\
 ((Rf (TV.v (AV.int .i64 ((sumL ls:Nat):Int))))/\
 ((Rf (TV.v (AV.rslice 1 0 (prodL ls))))/\
 (State.Le σ05 σ03)))))))))/\
 (∀ σ'6:State,((Rq (p4) σ'6) -> (∃ x'7:Y19,(((I (x'7))/\
 (((LS.μ (ls19t ls out I) x'7):Nat) < (LS.μ (ls19t ls out I) y)))/\
 (((TV.v (AV.int .i64 (IntKind.wrap .i64 (((codeR ls p4:Nat):Int) - 1)))) = (TV.v (AV.int .i64 (((Y19.k x'7:Nat):Int) - 1))))/\
 ((Rf (TV.v (AV.slice 1 (lsV ls) Cap.any)))/\
 ((Rf (TV.v (AV.slice 4 (tcellL out) Cap.any)))/\
 ((Rf (TV.v (AV.rslice 0 0 (List.length (ls)))))/\
 ((Rf (TV.v (AV.int .i64 ((sumL ls:Nat):Int))))/\
 ((Rf (TV.v (AV.rslice 1 0 (prodL ls))))/\
 (State.Le ((ls19t ls out I).3 x'7) σ'6)))))))))))))))))))))))))
 (((Y19.k y:Nat) = 0)/\
 ((Rf (TV.v (AV.slice 1 (lsV ls) Cap.any)))/\
 ((Rf (TV.v (AV.slice 4 (tcellL out) Cap.any)))/\
 ((Rf (TV.v (AV.rslice 0 0 (List.length (ls)))))/\
 ((Rf (TV.v (AV.int .i64 ((sumL ls:Nat):Int))))/\
 ((Rf (TV.v (AV.rslice 1 0 (prodL ls))))/\
 (State.Le (y.1) (y.1)))))))))):=by kernel_rfl
def T19t (ls:List (List T)) (out:List T) (I:Y19 -> Prop) (R:State -> Prop):LHand:=fun _ Q a σ => ∃ y:Y19,I y /\ atF a ((ls19t ls out I).F y) [] (y.σ.Le σ) /\ ∀ σ':State,R σ' -> Q (.exit 2) (frm (F19b ls out) []) σ'
theorem vc19a (B:Nat) (w0:World) (G:Nat -> AV) (S:Nat) (ls:List (List T)) (out:List T) (I:Y19 -> Prop) (Rt P:State -> Prop) (R:AV -> Bool -> Int -> State -> Prop) (σ:State):(wpX cuts19 (EV B w0 G) (H19 (EV B w0 G) S) (handL [(21,T19t ls out I Rt),(35,T18p (F19b ls out) P R)]) (annA 19) N19 (part19a Tryz.prog) (P18' R) (frm (F19s ls out (prodL ls) (sumL ls)) []) σ) =
 ((bcase ((((sumL ls:Nat):Int):Int) != (((List.length (tcellL out)):Nat):Int))
 (∃ v0:AV,(∃ b1:Bool,(∃ err2:Int,((R (v0) (b1) (err2) σ)/\
 (((TV.v AV.nilslice) = (TV.v (v0)))/\
 (((TV.v (AV.bool false)) = (TV.v (AV.bool (b1))))/\
 (((TV.v (AV.int .i64 0)) = (TV.v (AV.int .i64 (err2))))/\
 True)))))))
 ((((0:Int) <= ((prodL ls:Nat):Int))/\
 (((((prodL ls:Nat):Int):Int) <= ((prodL ls:Nat):Int))/\
 ((((8 * ((prodL ls:Nat):Int)):Int) <= 140737488355328)/\
 ((((prodL ls:Nat):Int):Int) <= 4611686018427387904))))/\
 (∃ y0:Y19,((I (y0))/\
 ((((TV.v (AV.int .i64 (IntKind.wrap .i64 (((prodL ls:Nat):Int) - 1)))) = (TV.v (AV.int .i64 (((Y19.k y0:Nat):Int) - 1))))/\
 ((Rf (TV.v (AV.slice 1 (lsV ls) Cap.any)))/\
 ((Rf (TV.v (AV.slice 4 (tcellL out) Cap.any)))/\
 ((Rf (TV.v (AV.rslice 0 0 (List.length (ls)))))/\
 ((Rf (TV.v (AV.int .i64 ((sumL ls:Nat):Int))))/\
 (((TV.v (AV.rslice (State.next σ) 0 (Int.toNat ((prodL ls:Nat):Int)))) = (TV.v (AV.rslice 1 0 (prodL ls))))/\
 (State.Le (y0.1) (State.new σ (AObj.cells (List.flatten (List.replicate (Int.toNat (↑(prodL ls):Int)) (AV.cells (av (Go.Value.int IntKind.i64 0))))) 3 1 false)))))))))/\
 (∀ σ'1:State,((Rt σ'1) -> (∃ σ02:State,((P σ02)/\
 (((Rf (TV.v (AV.slice 1 (lsV ls) Cap.any)))/\
 ((Rf (TV.v (AV.slice 4 (tcellL out) Cap.any)))/\
 ((Rf (TV.v (AV.rslice 0 0 (List.length (ls)))))/\
 ((Rf (TV.v (AV.int .i64 ((sumL ls:Nat):Int))))/\
 ((Rf (TV.v (AV.rslice 1 0 (prodL ls))))/\
 (State.Le σ02 σ'1))))))/\
 (∀ v3:AV,(∀ b4:Bool,(∀ err5:Int,(∀ σ'6:State,((R (v3) (b4) (err5) σ'6) -> (∃ v7:AV,(∃ b8:Bool,(∃ err9:Int,((R (v7) (b8) (err9) σ'6)/\
 (((TV.v (v3)) = (TV.v (v7)))/\
 (((TV.v (AV.bool (b4))) = (TV.v (AV.bool (b8))))/\
 (((TV.v (AV.int .i64 (err5))) = (TV.v (AV.int .i64 (err9))))/\
 True))))))))))))))))))))))):=by kernel_rfl
/- the order -/
structure Y37 where
 σ:State
 v:AV
 o:List Nat
 q:List Nat
def F37 (ls:List (List T)) (out:List T) (v:AV) (q:List Nat):List (Nat × TV):=(18,.v v) :: (19,.v (.int .i64 (codeR ls q:Int))) :: F19b ls out
def ls19l (ls:List (List T)) (out:List T) (I:Y37 -> Prop):LS Y37 where
 F y:=F37 ls out y.v y.q
 FL _:=[]
 S y:=y.σ
 I:=I
 μ y:=sumL ls - y.o.length
 Ex y e a σ':=match e with
  | .exit 8 => ¬ (y.o.length < sumL ls) /\ atF a [(18,.v y.v)] [] (y.σ.Le σ')
  | .ret => (y.o.length < sumL ls /\ nextV ls out y.q < 0) /\ atF a [(4,.v .nilslice),(5,.v (.bool false)),(6,.v (.int .i64 0))] [] True
  | _ => False
theorem vc19l1 (B:Nat) (w0:World) (G:Nat -> AV) (S:Nat) (ls:List (List T)) (out:List T) (I:Y37 -> Prop) (q:List Nat) (σ:State):(wpX cuts19 (EV B w0 G) (H19 (EV B w0 G) S) (fun _ _ _ _ => False) (annA 19) N19 (bodyOf (part19l Tryz.prog)) ((ls19l ls out I).post ⟨σ,.slice 1 [] .full,[],q⟩) (frm (F37 ls out (.slice 1 [] .full) q) []) σ) =
 ((bcase (decide ((0:Int) < ((sumL ls:Nat):Int)))
 (∃ a0:OE,(((State.objs σ 1) = (AObj.cells (OE.cs a0) 3 1 (OE.g a0)))/\
 ((((0:Int) <= ((codeR ls q:Nat):Int))/\
 ((((codeR ls q:Nat):Int):Int) < ((prodL ls:Nat):Int)))/\
 (∃ a1:OE,(((State.objs σ 1) = (AObj.cells (OE.cs a1) 3 1 (OE.g a1)))/\
 (((((0 + (Int.toNat ((codeR ls q:Nat):Int))) * 1):Nat) < (List.length (OE.cs a1)))/\
 (∃ x2:Int,(((List.getD (OE.cs a1) ((0 + Int.toNat (↑(codeR ls q):Int)) * 1) AV.undef) = (AV.int .i64 (x2)))/\
 (bcase (decide (((x2):Int) < 0))
 ((((0:Nat) < (sumL ls))/\
 (((nextV ls out (Y37.q (Y37.mk σ (AV.slice 1 [] Cap.full) [] q))):Int) < 0))/\
 ((Rf (TV.v AV.nilslice))/\
 ((Rf (TV.v (AV.bool false)))/\
 ((Rf (TV.v (AV.int .i64 0)))/\
 True))))
 (∃ a3:OE,(((State.objs σ 1) = (AObj.cells (OE.cs a3) 3 1 (OE.g a3)))/\
 ((((0:Int) <= ((codeR ls q:Nat):Int))/\
 ((((codeR ls q:Nat):Int):Int) < ((prodL ls:Nat):Int)))/\
 (∃ a4:OE,(((State.objs σ 1) = (AObj.cells (OE.cs a4) 3 1 (OE.g a4)))/\
 (((((0 + (Int.toNat ((codeR ls q:Nat):Int))) * 1):Nat) < (List.length (OE.cs a4)))/\
 (∃ x5:Int,(((List.getD (OE.cs a4) ((0 + Int.toNat (↑(codeR ls q):Int)) * 1) AV.undef) = (AV.int .i64 (x5)))/\
 ((((8:Nat) <= 140737488355328)/\
 ((1:Nat) <= 4611686018427387904))/\
 (∃ a6:OE,(((State.objs (State.new σ (AObj.cells [(AV.int .i64 (x5))] 3 1 true)) 1) = (AObj.cells (OE.cs a6) 3 1 (OE.g a6)))/\
 ((((0:Int) <= ((codeR ls q:Nat):Int))/\
 ((((codeR ls q:Nat):Int):Int) < ((prodL ls:Nat):Int)))/\
 (∃ a7:OE,(((State.objs (State.new σ (AObj.cells [(AV.int .i64 (x5))] 3 1 true)) 1) = (AObj.cells (OE.cs a7) 3 1 (OE.g a7)))/\
 (((((0 + (Int.toNat ((codeR ls q:Nat):Int))) * 1):Nat) < (List.length (OE.cs a7)))/\
 (∃ x8:Int,(((List.getD (OE.cs a7) ((0 + Int.toNat (↑(codeR ls q):Int)) * 1) AV.undef) = (AV.int .i64 (x8)))/\
 (∃ a9:OE,(((State.objs (State.new σ (AObj.cells [(AV.int .i64 (x5))] 3 1 true)) 0) = (AObj.cells (OE.cs a9) 3 1 (OE.g a9)))/\
 ((((0:Int) <= (x8))/\
 (((x8):Int) < (((List.length (ls)):Nat):Int)))/\
 (∃ a10:OE,(((State.objs (State.new σ (AObj.cells [(AV.int .i64 (x5))] 3 1 true)) 0) = (AObj.cells (OE.cs a10) 3 1 (OE.g a10)))/\
 (((((0 + (Int.toNat (x8))) * 1):Nat) < (List.length (OE.cs a10)))/\
 (∃ x11:Nat,(((List.getD (OE.cs a10) ((0 + Int.toNat x8) * 1) AV.undef) = (AV.int .i64 ((x11:Nat):Int)))/\
 (∃ x'12:Y37,(((I (x'12))/\
 (((LS.μ (ls19l ls out I) x'12):Nat) < (LS.μ (ls19l ls out I) (Y37.mk σ (AV.slice 1 [] Cap.full) [] q))))/\
 (((TV.v (AV.rslice (State.next σ) 0 1)) = (TV.v (Y37.v x'12)))/\
 (((TV.v (AV.int .i64 (IntKind.wrap .i64 (((codeR ls q:Nat):Int) + ((x11:Nat):Int))))) = (TV.v (AV.int .i64 (((codeR ls (Y37.q x'12)):Nat):Int))))/\
 ((Rf (TV.v (AV.slice 1 (lsV ls) Cap.any)))/\
 ((Rf (TV.v (AV.slice 4 (tcellL out) Cap.any)))/\
 ((Rf (TV.v (AV.rslice 0 0 (List.length (ls)))))/\
 ((Rf (TV.v (AV.int .i64 ((sumL ls:Nat):Int))))/\
 ((Rf (TV.v (AV.rslice 1 0 (prodL ls))))/\
 (State.Le ((ls19l ls out I).3 x'12) (State.new σ (AObj.cells [(AV.int .i64 (x5))] 3 1 true))))))))))))))))))))))))))))))))))))))))))))))
 ((((0:Nat) < (sumL ls)) -> False)/\
 ((Rf (TV.v (AV.slice 1 [] Cap.full)))/\
 (State.Le ((Y37.mk σ (AV.slice 1 [] Cap.full) [] q).1) σ))))):=by kernel_rfl
theorem vc19l2 (B:Nat) (w0:World) (G:Nat -> AV) (S:Nat) (ls:List (List T)) (out:List T) (I:Y37 -> Prop) (o q:List Nat) (id n:Nat) (σ:State):(wpX cuts19 (EV B w0 G) (H19 (EV B w0 G) S) (fun _ _ _ _ => False) (annA 19) N19 (bodyOf (part19l Tryz.prog)) ((ls19l ls out I).post ⟨σ,.rslice id 0 n,o,q⟩) (frm (F37 ls out (.rslice id 0 n) q) []) σ) =
 ((bcase (decide ((((n:Nat):Int):Int) < ((sumL ls:Nat):Int)))
 (∃ a0:OE,(((State.objs σ 1) = (AObj.cells (OE.cs a0) 3 1 (OE.g a0)))/\
 ((((0:Int) <= ((codeR ls q:Nat):Int))/\
 ((((codeR ls q:Nat):Int):Int) < ((prodL ls:Nat):Int)))/\
 (∃ a1:OE,(((State.objs σ 1) = (AObj.cells (OE.cs a1) 3 1 (OE.g a1)))/\
 (((((0 + (Int.toNat ((codeR ls q:Nat):Int))) * 1):Nat) < (List.length (OE.cs a1)))/\
 (∃ x2:Int,(((List.getD (OE.cs a1) ((0 + Int.toNat (↑(codeR ls q):Int)) * 1) AV.undef) = (AV.int .i64 (x2)))/\
 (bcase (decide (((x2):Int) < 0))
 (((((List.length (Y37.o (Y37.mk σ (AV.rslice id 0 n) o q))):Nat) < (sumL ls))/\
 (((nextV ls out (Y37.q (Y37.mk σ (AV.rslice id 0 n) o q))):Int) < 0))/\
 ((Rf (TV.v AV.nilslice))/\
 ((Rf (TV.v (AV.bool false)))/\
 ((Rf (TV.v (AV.int .i64 0)))/\
 True))))
 (∃ a3:OE,(((State.objs σ 1) = (AObj.cells (OE.cs a3) 3 1 (OE.g a3)))/\
 ((((0:Int) <= ((codeR ls q:Nat):Int))/\
 ((((codeR ls q:Nat):Int):Int) < ((prodL ls:Nat):Int)))/\
 (∃ a4:OE,(((State.objs σ 1) = (AObj.cells (OE.cs a4) 3 1 (OE.g a4)))/\
 (((((0 + (Int.toNat ((codeR ls q:Nat):Int))) * 1):Nat) < (List.length (OE.cs a4)))/\
 (∃ x5:Int,(((List.getD (OE.cs a4) ((0 + Int.toNat (↑(codeR ls q):Int)) * 1) AV.undef) = (AV.int .i64 (x5)))/\
 (∃ a6:OE,(((State.objs σ (id)) = (AObj.cells (OE.cs a6) 3 1 (OE.g a6)))/\
 ((((0:Nat) = 0)/\
 (((((((n) + 1) * 8):Nat) <= 140737488355328)/\
 ((((n) + 1):Nat) <= 4611686018427387904))/\
 ((((n) * 1):Nat) <= (List.length (OE.cs a6)))))/\
 (∃ a7:OE,(((State.objs (State.new (State.set σ (id) AObj.dead) (AObj.cells ((List.take ((n) * 1) (OE.cs a6)) ++ [(AV.int .i64 (x5))]) 3 1 true)) 1) = (AObj.cells (OE.cs a7) 3 1 (OE.g a7)))/\
 ((((0:Int) <= ((codeR ls q:Nat):Int))/\
 ((((codeR ls q:Nat):Int):Int) < ((prodL ls:Nat):Int)))/\
 (∃ a8:OE,(((State.objs (State.new (State.set σ (id) AObj.dead) (AObj.cells ((List.take ((n) * 1) (OE.cs a6)) ++ [(AV.int .i64 (x5))]) 3 1 true)) 1) = (AObj.cells (OE.cs a8) 3 1 (OE.g a8)))/\
 (((((0 + (Int.toNat ((codeR ls q:Nat):Int))) * 1):Nat) < (List.length (OE.cs a8)))/\
 (∃ x9:Int,(((List.getD (OE.cs a8) ((0 + Int.toNat (↑(codeR ls q):Int)) * 1) AV.undef) = (AV.int .i64 (x9)))/\
 (∃ a10:OE,(((State.objs (State.new (State.set σ (id) AObj.dead) (AObj.cells ((List.take ((n) * 1) (OE.cs a6)) ++ [(AV.int .i64 (x5))]) 3 1 true)) 0) = (AObj.cells (OE.cs a10) 3 1 (OE.g a10)))/\
 ((((0:Int) <= (x9))/\
 (((x9):Int) < (((List.length (ls)):Nat):Int)))/\
 (∃ a11:OE,(((State.objs (State.new (State.set σ (id) AObj.dead) (AObj.cells ((List.take ((n) * 1) (OE.cs a6)) ++ [(AV.int .i64 (x5))]) 3 1 true)) 0) = (AObj.cells (OE.cs a11) 3 1 (OE.g a11)))/\
 (((((0 + (Int.toNat (x9))) * 1):Nat) < (List.length (OE.cs a11)))/\
 (∃ x12:Nat,(((List.getD (OE.cs a11) ((0 + Int.toNat x9) * 1) AV.undef) = (AV.int .i64 ((x12:Nat):Int)))/\
 (∃ x'13:Y37,(((I (x'13))/\
 (((LS.μ (ls19l ls out I) x'13):Nat) < (LS.μ (ls19l ls out I) (Y37.mk σ (AV.rslice id 0 n) o q))))/\
 (((TV.v (AV.rslice (State.next σ) 0 ((n) + 1))) = (TV.v (Y37.v x'13)))/\
 (((TV.v (AV.int .i64 (IntKind.wrap .i64 (((codeR ls q:Nat):Int) + ((x12:Nat):Int))))) = (TV.v (AV.int .i64 (((codeR ls (Y37.q x'13)):Nat):Int))))/\
 ((Rf (TV.v (AV.slice 1 (lsV ls) Cap.any)))/\
 ((Rf (TV.v (AV.slice 4 (tcellL out) Cap.any)))/\
 ((Rf (TV.v (AV.rslice 0 0 (List.length (ls)))))/\
 ((Rf (TV.v (AV.int .i64 ((sumL ls:Nat):Int))))/\
 ((Rf (TV.v (AV.rslice 1 0 (prodL ls))))/\
 (State.Le ((ls19l ls out I).3 x'13) (State.new (State.set σ (id) AObj.dead) (AObj.cells ((List.take ((n) * 1) (OE.cs a6)) ++ [(AV.int .i64 (x5))]) 3 1 true))))))))))))))))))))))))))))))))))))))))))))))))
 (((((List.length (Y37.o (Y37.mk σ (AV.rslice id 0 n) o q))):Nat) < (sumL ls)) -> False)/\
 ((Rf (TV.v (AV.rslice (id) 0 (n))))/\
 (State.Le ((Y37.mk σ (AV.rslice id 0 n) o q).1) σ))))):=by kernel_rfl
def T19l (ls:List (List T)) (out:List T) (I R:Y37 -> Prop) (No:Prop):LHand:=fun _ Q a σ => ∃ y:Y37,I y /\ atF a ((ls19l ls out I).F y) [] (y.σ.Le σ) /\
 ((∀ y':Y37,R y' -> Q (.exit 8) (frm [(18,.v y'.v)] []) y'.σ) /\ (No -> ∀ σ':State,Q .ret (frm [(4,.v .nilslice),(5,.v (.bool false)),(6,.v (.int .i64 0))] []) σ'))
theorem vc19b (B:Nat) (w0:World) (G:Nat -> AV) (S:Nat) (ls:List (List T)) (out:List T) (I Rl:Y37 -> Prop) (No:Prop) (R:AV -> Bool -> Int -> State -> Prop) (σ:State):(wpX cuts19 (EV B w0 G) (H19 (EV B w0 G) S) (handL [(37,T19l ls out I Rl No)]) (annA 19) N19 (part19b Tryz.prog) (P18' R) (frm (F19b ls out) []) σ) =
 ((∃ y0:Y37,((I (y0))/\
 ((((TV.v (AV.slice 1 [] Cap.full)) = (TV.v (Y37.v y0)))/\
 (((TV.v (AV.int .i64 0)) = (TV.v (AV.int .i64 (((codeR ls (Y37.q y0)):Nat):Int))))/\
 ((Rf (TV.v (AV.slice 1 (lsV ls) Cap.any)))/\
 ((Rf (TV.v (AV.slice 4 (tcellL out) Cap.any)))/\
 ((Rf (TV.v (AV.rslice 0 0 (List.length (ls)))))/\
 ((Rf (TV.v (AV.int .i64 ((sumL ls:Nat):Int))))/\
 ((Rf (TV.v (AV.rslice 1 0 (prodL ls))))/\
 (State.Le (y0.1) σ))))))))/\
 ((∀ y'1:Y37,((Rl (y'1)) -> (∃ v2:AV,(∃ b3:Bool,(∃ err4:Int,((R (v2) (b3) (err4) (y'1.1))/\
 (((TV.v (Y37.v y'1)) = (TV.v (v2)))/\
 (((TV.v (AV.bool true)) = (TV.v (AV.bool (b3))))/\
 (((TV.v (AV.int .i64 0)) = (TV.v (AV.int .i64 (err4))))/\
 True)))))))))/\
 ((No ) -> (∀ σ'1:State,(∃ v2:AV,(∃ b3:Bool,(∃ err4:Int,((R (v2) (b3) (err4) σ'1)/\
 (((TV.v AV.nilslice) = (TV.v (v2)))/\
 (((TV.v (AV.bool false)) = (TV.v (AV.bool (b3))))/\
 (((TV.v (AV.int .i64 0)) = (TV.v (AV.int .i64 (err4))))/\
 True)))))))))))))):=by kernel_rfl
end Go.V
/- The reference's steps and its table: plain laws. -/
set_option linter.unusedSimpArgs false
namespace Go.V
open Go Go.Proofs

theorem stepsN_len (ls:List (List T)) (k:Nat):(stepsN ls k).length = ls.length:=by unfold stepsN; simp
theorem stepsN_get (ls:List (List T)) (k i:Nat) (h:i < ls.length):(stepsN ls k)[i]? = some (if k <= i then prodL (ls.drop (i + 1)) else 0):=by
 unfold stepsN
 rw [List.getElem?_map,List.getElem?_range h]; rfl
theorem stepsN_set (ls:List (List T)) (k:Nat) (h:k < ls.length):(stepsN ls (k + 1)).set k (prodL (ls.drop (k + 1))) = stepsN ls k:=by
 refine List.ext_getElem? fun i => ?_
 rcases Nat.lt_or_ge i ls.length with hi | hi
 ·rw [List.getElem?_set,stepsN_get _ _ _ hi,stepsN_get _ _ _ hi,stepsN_len]
  by_cases e:k = i
  ·subst e; rw [if_pos rfl,if_pos h,if_pos (Nat.le_refl _)]
  ·rw [if_neg e]
   by_cases e2:k + 1 <= i
   ·rw [if_pos e2,if_pos (by omega)]
   ·rw [if_neg e2,if_neg (by omega)]
 ·rw [List.getElem?_eq_none (by rw [List.length_set,stepsN_len]; exact hi),List.getElem?_eq_none (by rw [stepsN_len]; exact hi)]
theorem stepsN_last (ls:List (List T)):stepsN ls ls.length = List.replicate ls.length 0:=by
 refine List.ext_getElem? fun i => ?_
 rcases Nat.lt_or_ge i ls.length with hi | hi
 ·rw [stepsN_get _ _ _ hi,if_neg (by omega),List.getElem?_replicate,if_pos hi]
 ·rw [List.getElem?_eq_none (by rw [stepsN_len]; exact hi),List.getElem?_eq_none (by simpa using hi)]
theorem intsZ_set (l:List Int) (i:Nat) (x:Int):(intsZ l).set i (.int .i64 x) = intsZ (l.set i x):=by
 unfold intsZ; rw [List.map_set]
theorem intsV_getS {l:List Nat} {i x:Nat} (h:l[i]? = some x):(intsV l).getD i .undef = .int .i64 (x:Int):=by
 unfold intsV; rw [List.getD,List.getElem?_map,h]; rfl
theorem intsZ_getD {l:List Int} {i:Nat} (h:i < l.length):(intsZ l).getD i .undef = .int .i64 (l.getD i 0):=by
 unfold intsZ; rw [List.getD,List.getElem?_map,List.getD,List.getElem?_eq_getElem h]; rfl
theorem prodL_drop {ls:List (List T)} {k:Nat} (h:k < ls.length):prodL (ls.drop k) = (ls[k].length + 1) * prodL (ls.drop (k + 1)):=by
 rw [List.drop_eq_getElem_cons h]; rfl
theorem sumL_drop {ls:List (List T)} {k:Nat} (h:k < ls.length):sumL (ls.drop k) = ls[k].length + sumL (ls.drop (k + 1)):=by
 rw [List.drop_eq_getElem_cons h]; unfold sumL; rw [List.map_cons,List.sum_cons]
theorem prodL_drop_le (ls:List (List T)) (k:Nat):prodL (ls.drop k) <= prodL ls:=by
 have:=prodL_append (ls.take k) (ls.drop k)
 rw [List.take_append_drop] at this
 rw [this]
 exact Nat.le_mul_of_pos_left _ (prodL_pos _)
theorem codeR_inj {ls:List (List T)} {p q:List Nat} (hp:Bnd ls p) (hq:Bnd ls q) (h:codeR ls p = codeR ls q):p = q:=by
 refine List.ext_getElem? fun i => ?_
 have l1:=hp.len
 have l2:=hq.len
 rcases Nat.lt_or_ge i ls.length with hi | hi
 ·have e1:=codeR_dig (i:=i) hp (List.getElem?_eq_getElem hi)
  have e2:=codeR_dig (i:=i) hq (List.getElem?_eq_getElem hi)
  rw [h,e2] at e1
  rw [List.getD_eq_getElem?_getD,List.getD_eq_getElem?_getD,List.getElem?_eq_getElem (by omega),List.getElem?_eq_getElem (by omega)] at e1
  rw [List.getElem?_eq_getElem (by omega),List.getElem?_eq_getElem (by omega)]
  exact congrArg some e1.symm
 ·rw [List.getElem?_eq_none (by omega),List.getElem?_eq_none (by omega)]
theorem codeR0:∀ ls:List (List T),codeR ls (List.replicate ls.length 0) = 0
 | [] => rfl
 | l :: ls => by
  show 0 * prodL ls + codeR ls (List.replicate ls.length 0) = 0
  rw [codeR0 ls]; omega

def TabOk (ls:List (List T)) (out:List T) (s:Nat) (tab:List Int):Prop:=tab.length = prodL ls /\ ∀ q,Bnd ls q -> s <= codeR ls q -> tab.getD (codeR ls q) 0 = nextV ls out q
def entry (ls:List (List T)) (out:List T) (p:List Nat) (k:Nat):Int:=if p.sum < out.length then hdO (tryI (cand ls out p (out.length - p.sum - 1)) ((List.range ls.length).drop k)) else -1
theorem entry_zero {ls:List (List T)} {out:List T} {p:List Nat} (hp:p.sum <= out.length):entry ls out p 0 = nextV ls out p:=by
 unfold entry
 split
 ·rw [List.drop_zero,nextV_succ (n:=out.length - p.sum - 1) (by omega)]
 ·rw [nextV_end (by omega)]
theorem entry_full {ls:List (List T)} {out:List T} {p:List Nat} (hp:¬ p.sum < out.length) (k:Nat):entry ls out p k = nextV ls out p:=by
 unfold entry
 rw [if_neg hp,nextV_end (by omega)]
theorem entry_last (ls:List (List T)) (out:List T) (p:List Nat):entry ls out p ls.length = -1:=by
 unfold entry
 split
 ·rw [List.drop_eq_nil_of_le (by simp)]; rfl
 ·rfl
theorem entry_step {ls:List (List T)} {out:List T} {p:List Nat} {k:Nat} (hk:k < ls.length) (hp:p.sum < out.length) :
  entry ls out p k = if (cand ls out p (out.length - p.sum - 1) k).isSome then (k:Int) else entry ls out p (k + 1):=by
 unfold entry
 rw [if_pos hp,if_pos hp,List.drop_eq_getElem_cons (by simpa using hk),hdO_cons]
 simp
def TabAt (ls:List (List T)) (out:List T) (p:List Nat) (k:Nat) (tab:List Int):Prop:=TabOk ls out (codeR ls p + 1) tab /\ tab.getD (codeR ls p) 0 = entry ls out p k
theorem getD_set_ne {l:List Int} {i j:Nat} (x:Int) (h:i ≠ j):(l.set i x).getD j 0 = l.getD j 0:=by
 rw [List.getD,List.getD,List.getElem?_set,if_neg h]
theorem getD_set_eq {l:List Int} {i:Nat} (x:Int) (h:i < l.length):(l.set i x).getD i 0 = x:=by
 rw [List.getD,List.getElem?_set,if_pos rfl,if_pos h]; rfl
theorem TabOk.set {ls:List (List T)} {out:List T} {s:Nat} {tab:List Int} (h:TabOk ls out (s + 1) tab) (x:Int):TabOk ls out (s + 1) (tab.set s x) :=
 ⟨by rw [List.length_set]; exact h.1,fun q hq hs => by rw [getD_set_ne x (by omega)]; exact h.2 q hq hs⟩
theorem TabAt.zero {ls:List (List T)} {out:List T} {p:List Nat} {tab:List Int} (hb:Bnd ls p) (h:TabOk ls out (codeR ls p + 1) tab) (he:tab.getD (codeR ls p) 0 = nextV ls out p):TabOk ls out (codeR ls p) tab :=
 ⟨h.1,fun q hq hs => by
  rcases Nat.lt_or_ge (codeR ls p) (codeR ls q) with k | k
  ·exact h.2 q hq k
  ·rw [codeR_inj hq hb (by omega)]; exact he⟩
theorem nextV_split {ls:List (List T)} {out:List T} {q:List Nat} (hs:q.sum < out.length):(nextV ls out q < 0 /\ mgF ls out (out.length - q.sum) q = none) \/
  ∃ i:Nat,nextV ls out q = (i:Int) /\ i < ls.length /\ goesOn ls out q (out.length - q.sum - 1) i = true /\ mgF ls out (out.length - q.sum) q = (mgF ls out (out.length - q.sum - 1) (q.set i (q.getD i 0 + 1))).map (i :: ·):=by
 obtain ⟨n,hn⟩:∃ n,out.length - q.sum = n + 1:=⟨out.length - q.sum - 1,by omega⟩
 have key:∀ l:List Nat,(∀ j ∈ l,j < ls.length) -> (hdO (tryI (cand ls out q n) l) < 0 /\ tryI (cand ls out q n) l = none) \/
   ∃ i:Nat,hdO (tryI (cand ls out q n) l) = (i:Int) /\ i < ls.length /\ goesOn ls out q n i = true /\ tryI (cand ls out q n) l = (mgF ls out n (q.set i (q.getD i 0 + 1))).map (i :: ·):=by
  intro l
  induction l with
  | nil => intro _; exact .inl ⟨by show (-1:Int) < 0; omega,rfl⟩
  | cons i r ih =>
   intro hl
   rw [hdO_cons,tryI_cons]
   cases hc:cand ls out q n i with
   | some o =>
    refine .inr ⟨i,rfl,hl i List.mem_cons_self,?_,?_⟩
    ·unfold cand at hc
     split at hc
     ·assumption
     ·cases hc
    ·unfold cand at hc
     split at hc
     ·exact hc.symm
     ·cases hc
   | none => exact ih fun j hj => hl j (List.mem_cons_of_mem _ hj)
 rw [nextV_succ (n:=n) (by omega),hn,mgF_succ,show n + 1 - 1 = n by omega]
 exact key _ fun j hj => by simpa using hj
end Go.V
