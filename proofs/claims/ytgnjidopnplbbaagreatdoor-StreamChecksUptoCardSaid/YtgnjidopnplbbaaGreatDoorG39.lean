import Derived.Test.YtgnjidopnplbbaaGreatDoorG38
import Derived.Test.YtgnjidopnplbbaaGreatDoorG29
/- Conditions: Check. -/
set_option maxRecDepth 1000000
set_option linter.unusedVariables false
namespace Go.V
open Go Go.Proofs

def cuts18:List Nat:=[6,17]
def H18a (E:Env):Hand:=hnd E annA noHints [(60,C60),(59,C59)]
def T18p (F:List (Nat × TV)) (P:State -> Prop) (R:AV -> Bool -> Int -> State -> Prop):LHand:=fun _ Q a σ => ∃ σ0:State,P σ0 /\ atF a F [] (σ0.Le σ) /\
 ∀ (v:AV) (b:Bool) (err:Int) (σ':State),R v b err σ' -> Q .ret (frm [(4,.v v),(5,.v (.bool b)),(6,.v (.int .i64 err))] []) σ'
def P18' (R:AV -> Bool -> Int -> State -> Prop):Post:=fun e a σ => match e with
 | .ret => ∃ (v:AV) (b:Bool) (err:Int),R v b err σ /\ atF a [(4,.v v),(5,.v (.bool b)),(6,.v (.int .i64 err))] [] True
 | _ => False
def N18:FnHint:=hAt [(3,4,hEl 23 1),(7,0,Hint.s),(9,0,hSl),(11,4,Hint.s),(17,1,Hint.s),(17,3,hEl 122 1),(18,2,Hint.s),(18,4,hEl 26 1),(21,1,hEl 123 1),(24,0,hOutAt)]
def N18b (ls:List (List T)) (out:List T):FnHint:=fun i j => match (Nat.beq i 7 || Nat.beq i 18) && Nat.beq j 0 with
 | true => Hint.of (fun g:Bool => AObj.cells [.slice 1 (lsV ls) .any] 22 1 g)
 | false => match Nat.beq i 15 && Nat.beq j 1 with
  | true => Hint.of (fun g:Bool => AObj.cells [slV out] 23 1 g)
  | false => match Nat.beq i 22 && Nat.beq j 0 with
   | true => Hint.ofAs (fun x:OE => AObj.cells x.cs 123 1 x.g) (fun f:FI => f.fn)
   | false => N18 i j
theorem fnParts_18:fnParts Tryz.prog cuts18 18 = [fnPart Tryz.prog cuts18 18 0] /\ headId (fnPart Tryz.prog cuts18 18 0) = some 6:=by constructor <;> kernel_rfl
theorem vc18 (B:Nat) (w0:World) (G:Nat -> AV) (ls:List (List T)) (out:List T) (P:State -> Prop) (R:AV -> Bool -> Int -> State -> Prop) (Q:AV -> State -> Prop):(bodyX cuts18 (EV B w0 G) (H18a (EV B w0 G)) (handL [(6,T18p [(2,.v (.ptr 0 0)),(3,.v (.ptr 1 0))] P R)]) annA N18 18 [.slice 1 (lsV ls) .any,slV out] noObj Q) =
 ((bcase (decide (((((List.length (lsV ls)):Nat):Int):Int) > 8))
 (Q (AV.tuple [AV.nilslice,(AV.bool false),(AV.int .i64 1)]) (State.new (State.new (noObj) (AObj.cells [(AV.slice 1 (lsV ls) Cap.any)] 22 1 false)) (AObj.cells [(AV.slice 4 (tcellL out) Cap.any)] 23 1 false)))
 (∃ ls0:List (List T),(([(AV.slice 1 (lsV ls) Cap.any)] = [(AV.slice 1 (lsV ls0) Cap.any)])/\
 ((((List.length (ls0)):Nat) <= 1000000)/\
 ((((ls0) = []) -> ((Rf (TV.v (AV.slice 4 (tcellL out) Cap.any)))/\
 ((Rf (TV.v (AV.slice 1 [(AV.slice 4 (tcellL out) Cap.any)] Cap.full)))/\
 ((((24:Nat) <= 140737488355328)/\
 ((1:Nat) <= 4611686018427387904))/\
 (∃ id1:Nat,(∃ n2:Nat,(∃ g3:Bool,(∃ ls4:List (List T),(∃ c5:Heap KR,(([(AV.rslice 2 0 1)] = [(AV.rslice (id1) 0 (n2))])/\
 (((At c5 (State.new (State.new (State.new (noObj) (AObj.cells [(AV.slice 1 (lsV ls) Cap.any)] 22 1 false)) (AObj.cells [(AV.slice 4 (tcellL out) Cap.any)] 23 1 false)) (AObj.cells [(AV.slice 4 (tcellL out) Cap.any)] 23 1 true)))/\
 ((∀ r6:KR,(∀ id7:Nat,(∀ o8:AObj,(((c5 r6) = (Option.some (Prod.mk (id7) (o8)))) -> ((isTok o8) = false)))))/\
 (((c5 KR.cl) = (Option.some (Prod.mk (id1) (AObj.cells (lsV ls4) 23 1 (g3)))))/\
 ((((List.length (ls4)):Nat) = (n2))/\
 ((((n2):Nat) <= 1000000)/\
 (∀ l6:List T,((l6 ∈ ls4) -> (((List.length (l6)):Nat) <= 1099511627776))))))))/\
 (∀ σ'6:State,((At c5 σ'6) -> (((∀ l7:List T,((l7 ∈ ls4) -> (∀ x8:T,((x8 ∈ l7) -> ((grT x8) = true))))) -> (∃ σ07:State,((P σ07)/\
 (((Rf (TV.v (AV.ptr 0 0)))/\
 ((Rf (TV.v (AV.ptr 1 0)))/\
 (State.Le σ07 σ'6)))/\
 (∀ v8:AV,(∀ b9:Bool,(∀ err10:Int,(∀ σ'11:State,((R (v8) (b9) (err10) σ'11) -> (Q (AV.tuple [(v8),(AV.bool (b9)),(AV.int .i64 (err10))]) σ'11))))))))))/\
 ((∃ l7:List T,((l7 ∈ ls4)/\
 (∃ x8:T,((x8 ∈ l7)/\
 ((grT x8) = false))))) -> (Q (AV.tuple [AV.nilslice,(AV.bool false),(AV.int .i64 3)]) σ'6))))))))))))))))/\
 ((((ls0) = []) -> ((Rf (TV.v (AV.slice 4 (tcellL out) Cap.any)))/\
 ((Rf (TV.v (AV.slice 1 [(AV.slice 4 (tcellL out) Cap.any)] Cap.full)))/\
 ((((24:Nat) <= 140737488355328)/\
 ((1:Nat) <= 4611686018427387904))/\
 (∃ id1:Nat,(∃ n2:Nat,(∃ g3:Bool,(∃ ls4:List (List T),(∃ c5:Heap KR,(([(AV.rslice 2 0 1)] = [(AV.rslice (id1) 0 (n2))])/\
 (((At c5 (State.new (State.new (State.new (noObj) (AObj.cells [(AV.slice 1 (lsV ls) Cap.any)] 22 1 false)) (AObj.cells [(AV.slice 4 (tcellL out) Cap.any)] 23 1 false)) (AObj.cells [(AV.slice 4 (tcellL out) Cap.any)] 23 1 true)))/\
 ((∀ r6:KR,(∀ id7:Nat,(∀ o8:AObj,(((c5 r6) = (Option.some (Prod.mk (id7) (o8)))) -> ((isTok o8) = false)))))/\
 (((c5 KR.cl) = (Option.some (Prod.mk (id1) (AObj.cells (lsV ls4) 23 1 (g3)))))/\
 ((((List.length (ls4)):Nat) = (n2))/\
 ((((n2):Nat) <= 1000000)/\
 (∀ l6:List T,((l6 ∈ ls4) -> (((List.length (l6)):Nat) <= 1099511627776))))))))/\
 (∀ σ'6:State,((At c5 σ'6) -> (((∀ l7:List T,((l7 ∈ ls4) -> (∀ x8:T,((x8 ∈ l7) -> ((grT x8) = true))))) -> (∃ σ07:State,((P σ07)/\
 (((Rf (TV.v (AV.ptr 0 0)))/\
 ((Rf (TV.v (AV.ptr 1 0)))/\
 (State.Le σ07 σ'6)))/\
 (∀ v8:AV,(∀ b9:Bool,(∀ err10:Int,(∀ σ'11:State,((R (v8) (b9) (err10) σ'11) -> (Q (AV.tuple [(v8),(AV.bool (b9)),(AV.int .i64 (err10))]) σ'11))))))))))/\
 ((∃ l7:List T,((l7 ∈ ls4)/\
 (∃ x8:T,((x8 ∈ l7)/\
 ((grT x8) = false))))) -> (Q (AV.tuple [AV.nilslice,(AV.bool false),(AV.int .i64 3)]) σ'6))))))))))))))))/\
 (((ls0) ≠ []) -> ((Rf (TV.v (AV.slice 4 (tcellL out) Cap.any)))/\
 ((Rf (TV.v (AV.slice 1 [(AV.slice 4 (tcellL out) Cap.any)] Cap.full)))/\
 (∃ a1:OE,(((AObj.cells (lsV ls0) 23 1 true) = (AObj.cells (OE.cs a1) 23 1 (OE.g a1)))/\
 ((((0:Nat) = 0)/\
 (((((((List.length (ls0)) + 1) * 24):Nat) <= 140737488355328)/\
 ((((List.length (ls0)) + 1):Nat) <= 4611686018427387904))/\
 ((((List.length (ls0)) * 1):Nat) <= (List.length (OE.cs a1)))))/\
 (∃ id2:Nat,(∃ n3:Nat,(∃ g4:Bool,(∃ ls5:List (List T),(∃ c6:Heap KR,(([(AV.rslice 3 0 ((List.length (ls0)) + 1))] = [(AV.rslice (id2) 0 (n3))])/\
 (((At c6 (State.new (State.set (State.new (State.new (State.new (noObj) (AObj.cells [(AV.slice 1 (lsV ls) Cap.any)] 22 1 false)) (AObj.cells [(AV.slice 4 (tcellL out) Cap.any)] 23 1 false)) (AObj.cells (lsV ls0) 23 1 true)) 2 AObj.dead) (AObj.cells ((List.take ((List.length (ls0)) * 1) (OE.cs a1)) ++ [(AV.slice 4 (tcellL out) Cap.any)]) 23 1 true)))/\
 ((∀ r7:KR,(∀ id8:Nat,(∀ o9:AObj,(((c6 r7) = (Option.some (Prod.mk (id8) (o9)))) -> ((isTok o9) = false)))))/\
 (((c6 KR.cl) = (Option.some (Prod.mk (id2) (AObj.cells (lsV ls5) 23 1 (g4)))))/\
 ((((List.length (ls5)):Nat) = (n3))/\
 ((((n3):Nat) <= 1000000)/\
 (∀ l7:List T,((l7 ∈ ls5) -> (((List.length (l7)):Nat) <= 1099511627776))))))))/\
 (∀ σ'7:State,((At c6 σ'7) -> (((∀ l8:List T,((l8 ∈ ls5) -> (∀ x9:T,((x9 ∈ l8) -> ((grT x9) = true))))) -> (∃ σ08:State,((P σ08)/\
 (((Rf (TV.v (AV.ptr 0 0)))/\
 ((Rf (TV.v (AV.ptr 1 0)))/\
 (State.Le σ08 σ'7)))/\
 (∀ v9:AV,(∀ b10:Bool,(∀ err11:Int,(∀ σ'12:State,((R (v9) (b10) (err11) σ'12) -> (Q (AV.tuple [(v9),(AV.bool (b10)),(AV.int .i64 (err11))]) σ'12))))))))))/\
 ((∃ l8:List T,((l8 ∈ ls5)/\
 (∃ x9:T,((x9 ∈ l8)/\
 ((grT x9) = false))))) -> (Q (AV.tuple [AV.nilslice,(AV.bool false),(AV.int .i64 3)]) σ'7))))))))))))))))))))))))):=by kernel_rfl
/- behind ground -/
structure Y18 where
 σ:State
 i:Nat
 all:Nat
 many:Nat
def F18 (ls:List (List T)) (y:Y18):List (Nat × TV):=[(2,.v (.ptr 0 0)),(3,.v (.ptr 1 0)),(8,.v (.int .i64 (y.all:Int))),(9,.v (.int .i64 (y.many:Int))),(28,.v (.slice 1 (lsV ls) .any)),(29,.v (.int .i64 ((lsV ls).length:Int))),(30,.v (.int .i64 (y.i:Int)))]
def ls18 (ls:List (List T)) (I:Y18 -> Prop):LS Y18 where
 F y:=F18 ls y
 FL _:=[]
 S y:=y.σ
 I:=I
 μ y:=ls.length - y.i
 Ex y e a σ:=match e with
  | .exit 0 => ¬ (y.i < ls.length) /\ atF a [(2,.v (.ptr 0 0)),(3,.v (.ptr 1 0)),(8,.v (.int .i64 (y.all:Int))),(9,.v (.int .i64 (y.many:Int)))] [] (y.σ.Le σ)
  | .ret => (20000 < prodL ls) /\ atF a [(4,.v .nilslice),(5,.v (.bool false)),(6,.v (.int .i64 2))] [] (y.σ.Le σ)
  | _ => False
def part18a (P:Program):Code:=fnPart P cuts18 18 0
def part18l (P:Program):Code:=((partsIn cuts18 (part18a P))[0]?).getD .skip
def part18b (P:Program):Code:=((partsIn cuts18 (part18a P))[1]?).getD .skip
theorem partsIn_18a:partsIn cuts18 (part18a Tryz.prog) = [.loop (bodyOf (part18l Tryz.prog)),part18b Tryz.prog]:=by kernel_rfl
theorem headId_18:headId (part18b Tryz.prog) = some 17 /\ headId (.loop (bodyOf (part18l Tryz.prog))) = some 8:=by constructor <;> kernel_rfl
theorem vc18l (B:Nat) (w0:World) (G:Nat -> AV) (ls:List (List T)) (out:List T) (I:Y18 -> Prop) (y:Y18):(wpX cuts18 (EV B w0 G) (H0 (EV B w0 G)) (fun _ _ _ _ => False) (annA 18) (N18b ls out) (bodyOf (part18l Tryz.prog)) ((ls18 ls I).post y) (frm (F18 ls y) []) y.σ) =
 ((bcase (decide ((((Y18.i y:Nat):Int):Int) < (((List.length (lsV ls)):Nat):Int)))
 ((((0:Int) <= ((Y18.i y:Nat):Int))/\
 ((((Y18.i y:Nat):Int):Int) < (((List.length (lsV ls)):Nat):Int)))/\
 (∃ x0:List T,(((AV.vptr (AV.cells (List.getD (lsV ls) (Int.toNat (↑(Y18.i y):Int)) AV.undef))) = (AV.vptr [(AV.slice 4 (tcellL x0) Cap.any)]))/\
 ((((IntKind.wrap .i64 ((((List.length (tcellL x0)):Nat):Int) + 1)):Int) ≠ 0)/\
 (bcase (decide ((((Y18.all y:Nat):Int):Int) > (IntKind.wrap .i64 (Int.tdiv 20000 (IntKind.wrap .i64 ((↑(List.length (tcellL x0)):Int) + 1))))))
 (((20000:Nat) < (prodL ls))/\
 ((Rf (TV.v AV.nilslice))/\
 ((Rf (TV.v (AV.bool false)))/\
 ((Rf (TV.v (AV.int .i64 2)))/\
 (State.Le (y.1) (y.1))))))
 (∃ x'1:Y18,(((I (x'1))/\
 (((LS.μ (ls18 ls I) x'1):Nat) < (LS.μ (ls18 ls I) y)))/\
 ((Rf (TV.v (AV.ptr 0 0)))/\
 ((Rf (TV.v (AV.ptr 1 0)))/\
 (((TV.v (AV.int .i64 (IntKind.wrap .i64 (((Y18.all y:Nat):Int) * (IntKind.wrap .i64 ((((List.length (tcellL x0)):Nat):Int) + 1)))))) = (TV.v (AV.int .i64 ((Y18.all x'1:Nat):Int))))/\
 (((TV.v (AV.int .i64 (IntKind.wrap .i64 (((Y18.many y:Nat):Int) + (((List.length (tcellL x0)):Nat):Int))))) = (TV.v (AV.int .i64 ((Y18.many x'1:Nat):Int))))/\
 ((Rf (TV.v (AV.slice 1 (lsV ls) Cap.any)))/\
 ((Rf (TV.v (AV.int .i64 (((List.length (lsV ls)):Nat):Int))))/\
 (((TV.v (AV.int .i64 (IntKind.wrap .i64 (((Y18.i y:Nat):Int) + 1)))) = (TV.v (AV.int .i64 ((Y18.i x'1:Nat):Int))))/\
 (State.Le ((ls18 ls I).3 x'1) (y.1))))))))))))))))
 ((((Y18.i y:Nat) < (List.length (ls))) -> False)/\
 ((Rf (TV.v (AV.ptr 0 0)))/\
 ((Rf (TV.v (AV.ptr 1 0)))/\
 ((Rf (TV.v (AV.int .i64 ((Y18.all y:Nat):Int))))/\
 ((Rf (TV.v (AV.int .i64 ((Y18.many y:Nat):Int))))/\
 (State.Le (y.1) (y.1))))))))):=by kernel_rfl
def T18l (ls:List (List T)) (I:Y18 -> Prop) (R:State -> Prop):LHand:=fun _ Q a σ => ∃ y:Y18,I y /\ atF a (F18 ls y) [] (y.σ.Le σ) /\
 ((∀ σ':State,R σ' -> prodL ls <= 20000 -> Q (.exit 0) (frm [(2,.v (.ptr 0 0)),(3,.v (.ptr 1 0)),(8,.v (.int .i64 (prodL ls:Int))),(9,.v (.int .i64 (sumL ls:Int)))] []) σ') /\
  (∀ σ':State,R σ' -> 20000 < prodL ls -> Q .ret (frm [(4,.v .nilslice),(5,.v (.bool false)),(6,.v (.int .i64 2))] []) σ'))
theorem vc18a (B:Nat) (w0:World) (G:Nat -> AV) (ls:List (List T)) (out:List T) (I:Y18 -> Prop) (Rl:State -> Prop) (Pb:State -> Prop) (R:AV -> Bool -> Int -> State -> Prop) (σ:State):(wpX cuts18 (EV B w0 G) (H0 (EV B w0 G)) (handL [(8,T18l ls I Rl),(17,T18p [(2,.v (.ptr 0 0)),(3,.v (.ptr 1 0)),(8,.v (.int .i64 (prodL ls:Int)))] Pb R)]) (annA 18) (N18b ls out) (part18a Tryz.prog) (P18' R) (frm [(2,.v (.ptr 0 0)),(3,.v (.ptr 1 0))] []) σ) =
 ((∃ a0:Bool,(((State.objs σ 0) = (AObj.cells [(AV.slice 1 (lsV ls) Cap.any)] 22 1 (a0)))/\
 (((0:Nat) < 1)/\
 (∃ y1:Y18,((I (y1))/\
 (((Rf (TV.v (AV.ptr 0 0)))/\
 ((Rf (TV.v (AV.ptr 1 0)))/\
 (((TV.v (AV.int .i64 1)) = (TV.v (AV.int .i64 ((Y18.all y1:Nat):Int))))/\
 (((TV.v (AV.int .i64 0)) = (TV.v (AV.int .i64 ((Y18.many y1:Nat):Int))))/\
 ((Rf (TV.v (AV.slice 1 (lsV ls) Cap.any)))/\
 ((Rf (TV.v (AV.int .i64 (((List.length (lsV ls)):Nat):Int))))/\
 (((TV.v (AV.int .i64 0)) = (TV.v (AV.int .i64 ((Y18.i y1:Nat):Int))))/\
 (State.Le (y1.1) σ))))))))/\
 ((∀ σ'2:State,((Rl σ'2) -> (((prodL ls:Nat) <= 20000) -> (∃ a3:Bool,(((State.objs σ'2 1) = (AObj.cells [(AV.slice 4 (tcellL out) Cap.any)] 23 1 (a3)))/\
 (((0:Nat) < 1)/\
 (bcase ((((sumL ls:Nat):Int):Int) != (((List.length (tcellL out)):Nat):Int))
 (∃ v4:AV,(∃ b5:Bool,(∃ err6:Int,((R (v4) (b5) (err6) σ'2)/\
 (((TV.v AV.nilslice) = (TV.v (v4)))/\
 (((TV.v (AV.bool false)) = (TV.v (AV.bool (b5))))/\
 (((TV.v (AV.int .i64 0)) = (TV.v (AV.int .i64 (err6))))/\
 True)))))))
 (∃ σ04:State,((Pb σ04)/\
 (((Rf (TV.v (AV.ptr 0 0)))/\
 ((Rf (TV.v (AV.ptr 1 0)))/\
 ((Rf (TV.v (AV.int .i64 ((prodL ls:Nat):Int))))/\
 (State.Le σ04 σ'2))))/\
 (∀ v5:AV,(∀ b6:Bool,(∀ err7:Int,(∀ σ'8:State,((R (v5) (b6) (err7) σ'8) -> (∃ v9:AV,(∃ b10:Bool,(∃ err11:Int,((R (v9) (b10) (err11) σ'8)/\
 (((TV.v (v5)) = (TV.v (v9)))/\
 (((TV.v (AV.bool (b6))) = (TV.v (AV.bool (b10))))/\
 (((TV.v (AV.int .i64 (err7))) = (TV.v (AV.int .i64 (err11))))/\
 True))))))))))))))))))))))/\
 (∀ σ'2:State,((Rl σ'2) -> (((20000:Nat) < (prodL ls)) -> (∃ v3:AV,(∃ b4:Bool,(∃ err5:Int,((R (v3) (b4) (err5) σ'2)/\
 (((TV.v AV.nilslice) = (TV.v (v3)))/\
 (((TV.v (AV.bool false)) = (TV.v (AV.bool (b4))))/\
 (((TV.v (AV.int .i64 2)) = (TV.v (AV.int .i64 (err5))))/\
 True)))))))))))))))))):=by kernel_rfl
theorem vc18b (B:Nat) (w0:World) (G:Nat -> AV) (f:FI) (ls:List (List T)) (out:List T) (N:Nat) (R:AV -> Bool -> Int -> State -> Prop) (σ:State):(wpX cuts18 (EV B w0 G) (hnd (EV B w0 G) annA noHints [(61,C61 f ls out N)]) (fun _ _ _ _ => False) (annA 18) (N18b ls out) (part18b Tryz.prog) (P18' R) (frm [(2,.v (.ptr 0 0)),(3,.v (.ptr 1 0)),(8,.v (.int .i64 (prodL ls:Int)))] []) σ) =
 (((((0:Int) <= ((prodL ls:Nat):Int))/\
 (((((prodL ls:Nat):Int):Int) <= ((prodL ls:Nat):Int))/\
 ((((1 * ((prodL ls:Nat):Int)):Int) <= 140737488355328)/\
 ((((prodL ls:Nat):Int):Int) <= 4611686018427387904))))/\
 (∃ a0:OE,(((State.objs (State.new (State.new σ (AObj.cells (List.flatten (List.replicate (Int.toNat (↑(prodL ls):Int)) (AV.cells (av (Go.Value.bool Bool.false))))) 4 1 false)) (AObj.cells [AV.nilslice] 122 1 false)) ((State.next σ) + 1)) = (AObj.cells (OE.cs a0) 122 1 (OE.g a0)))/\
 (((1:Nat) <= (List.length (OE.cs a0)))/\
 (∃ a1:Bool,(((State.objs (State.set (State.new (State.new σ (AObj.cells (List.flatten (List.replicate (Int.toNat (↑(prodL ls):Int)) (AV.cells (av (Go.Value.bool Bool.false))))) 4 1 false)) (AObj.cells [AV.nilslice] 122 1 false)) ((State.next σ) + 1) (AObj.cells (asplice (OE.cs a0) 0 [(AV.rslice (State.next σ) 0 (Int.toNat ((prodL ls:Nat):Int)))]) 122 1 (OE.g a0))) 0) = (AObj.cells [(AV.slice 1 (lsV ls) Cap.any)] 22 1 (a1)))/\
 (((0:Nat) < 1)/\
 ((((0:Int) <= (((List.length (lsV ls)):Nat):Int))/\
 ((((((List.length (lsV ls)):Nat):Int):Int) <= (((List.length (lsV ls)):Nat):Int))/\
 ((((8 * (((List.length (lsV ls)):Nat):Int)):Int) <= 140737488355328)/\
 (((((List.length (lsV ls)):Nat):Int):Int) <= 4611686018427387904))))/\
 (∃ a2:OE,(((State.objs (State.new (State.new (State.set (State.new (State.new σ (AObj.cells (List.flatten (List.replicate (Int.toNat (↑(prodL ls):Int)) (AV.cells (av (Go.Value.bool Bool.false))))) 4 1 false)) (AObj.cells [AV.nilslice] 122 1 false)) ((State.next σ) + 1) (AObj.cells (asplice (OE.cs a0) 0 [(AV.rslice (State.next σ) 0 (Int.toNat ((prodL ls:Nat):Int)))]) 122 1 (OE.g a0))) (AObj.cells (List.flatten (List.replicate (Int.toNat (↑(List.length (lsV ls)):Int)) (AV.cells (av (Go.Value.int IntKind.i64 0))))) 3 1 false)) (AObj.cells [AV.nilslice] 26 1 false)) ((((State.next σ) + 1) + 1) + 1)) = (AObj.cells (OE.cs a2) 26 1 (OE.g a2)))/\
 (((1:Nat) <= (List.length (OE.cs a2)))/\
 (∃ a3:OE,(((State.objs (State.new (State.new (State.set (State.new (State.new (State.set (State.new (State.new σ (AObj.cells (List.flatten (List.replicate (Int.toNat (↑(prodL ls):Int)) (AV.cells (av (Go.Value.bool Bool.false))))) 4 1 false)) (AObj.cells [AV.nilslice] 122 1 false)) ((State.next σ) + 1) (AObj.cells (asplice (OE.cs a0) 0 [(AV.rslice (State.next σ) 0 (Int.toNat ((prodL ls:Nat):Int)))]) 122 1 (OE.g a0))) (AObj.cells (List.flatten (List.replicate (Int.toNat (↑(List.length (lsV ls)):Int)) (AV.cells (av (Go.Value.int IntKind.i64 0))))) 3 1 false)) (AObj.cells [AV.nilslice] 26 1 false)) ((((State.next σ) + 1) + 1) + 1) (AObj.cells (asplice (OE.cs a2) 0 [(AV.rslice (((State.next σ) + 1) + 1) 0 (Int.toNat (((List.length (lsV ls)):Nat):Int)))]) 26 1 (OE.g a2))) (AObj.cells [AV.nilslice] 26 1 false)) (AObj.cells [AV.nilfunc] 123 1 false)) ((((((State.next σ) + 1) + 1) + 1) + 1) + 1)) = (AObj.cells (OE.cs a3) 123 1 (OE.g a3)))/\
 (((1:Nat) <= (List.length (OE.cs a3)))/\
 (∃ a4:OE,(((State.objs (State.set (State.new (State.new (State.set (State.new (State.new (State.set (State.new (State.new σ (AObj.cells (List.flatten (List.replicate (Int.toNat (↑(prodL ls):Int)) (AV.cells (av (Go.Value.bool Bool.false))))) 4 1 false)) (AObj.cells [AV.nilslice] 122 1 false)) ((State.next σ) + 1) (AObj.cells (asplice (OE.cs a0) 0 [(AV.rslice (State.next σ) 0 (Int.toNat ((prodL ls:Nat):Int)))]) 122 1 (OE.g a0))) (AObj.cells (List.flatten (List.replicate (Int.toNat (↑(List.length (lsV ls)):Int)) (AV.cells (av (Go.Value.int IntKind.i64 0))))) 3 1 false)) (AObj.cells [AV.nilslice] 26 1 false)) ((((State.next σ) + 1) + 1) + 1) (AObj.cells (asplice (OE.cs a2) 0 [(AV.rslice (((State.next σ) + 1) + 1) 0 (Int.toNat (((List.length (lsV ls)):Nat):Int)))]) 26 1 (OE.g a2))) (AObj.cells [AV.nilslice] 26 1 false)) (AObj.cells [AV.nilfunc] 123 1 false)) ((((((State.next σ) + 1) + 1) + 1) + 1) + 1) (AObj.cells (asplice (OE.cs a3) 0 [(AV.func (Go.Fn.func 61) [] [(AV.ptr (((((State.next σ) + 1) + 1) + 1) + 1) 0),(AV.ptr 1 0),(AV.ptr ((State.next σ) + 1) 0),(AV.ptr 0 0),(AV.ptr ((((State.next σ) + 1) + 1) + 1) 0),(AV.ptr ((((((State.next σ) + 1) + 1) + 1) + 1) + 1) 0)])]) 123 1 (OE.g a3))) ((((((State.next σ) + 1) + 1) + 1) + 1) + 1)) = (AObj.cells (OE.cs a4) 123 1 (OE.g a4)))/\
 (((0:Nat) < (List.length (OE.cs a4)))/\
 (∃ x5:FI,(((List.getD (OE.cs a4) 0 AV.undef) = (AV.func (Go.Fn.func 61) [] [(AV.ptr (FI.oc x5) 0),(AV.ptr (FI.out x5) 0),(AV.ptr (FI.bc x5) 0),(AV.ptr (FI.ls x5) 0),(AV.ptr (FI.ac x5) 0),(AV.ptr (FI.fc x5) 0)]))/\
 (∃ s6:Nat,(∃ p7:List Nat,(∃ order8:List Nat,(∃ bad9:List Bool,(([(AV.int .i64 0),(AV.ptr (FI.oc x5) 0),(AV.ptr (FI.out x5) 0),(AV.ptr (FI.bc x5) 0),(AV.ptr (FI.ls x5) 0),(AV.ptr (FI.ac x5) 0),(AV.ptr (FI.fc x5) 0)] = [(AV.int .i64 ((s6:Nat):Int)),(AV.ptr (FI.oc f) 0),(AV.ptr (FI.out f) 0),(AV.ptr (FI.bc f) 0),(AV.ptr (FI.ls f) 0),(AV.ptr (FI.ac f) 0),(AV.ptr (FI.fc f) 0)])/\
 ((FPre (f) (ls) (out) (N) (s6) (p7) (order8) (bad9) (State.set (State.new (State.new (State.set (State.new (State.new (State.set (State.new (State.new σ (AObj.cells (List.flatten (List.replicate (Int.toNat (↑(prodL ls):Int)) (AV.cells (av (Go.Value.bool Bool.false))))) 4 1 false)) (AObj.cells [AV.nilslice] 122 1 false)) ((State.next σ) + 1) (AObj.cells (asplice (OE.cs a0) 0 [(AV.rslice (State.next σ) 0 (Int.toNat ((prodL ls:Nat):Int)))]) 122 1 (OE.g a0))) (AObj.cells (List.flatten (List.replicate (Int.toNat (↑(List.length (lsV ls)):Int)) (AV.cells (av (Go.Value.int IntKind.i64 0))))) 3 1 false)) (AObj.cells [AV.nilslice] 26 1 false)) ((((State.next σ) + 1) + 1) + 1) (AObj.cells (asplice (OE.cs a2) 0 [(AV.rslice (((State.next σ) + 1) + 1) 0 (Int.toNat (((List.length (lsV ls)):Nat):Int)))]) 26 1 (OE.g a2))) (AObj.cells [AV.nilslice] 26 1 false)) (AObj.cells [AV.nilfunc] 123 1 false)) ((((((State.next σ) + 1) + 1) + 1) + 1) + 1) (AObj.cells (asplice (OE.cs a3) 0 [(AV.func (Go.Fn.func 61) [] [(AV.ptr (((((State.next σ) + 1) + 1) + 1) + 1) 0),(AV.ptr 1 0),(AV.ptr ((State.next σ) + 1) 0),(AV.ptr 0 0),(AV.ptr ((((State.next σ) + 1) + 1) + 1) 0),(AV.ptr ((((((State.next σ) + 1) + 1) + 1) + 1) + 1) 0)])]) 123 1 (OE.g a3))))/\
 ((∀ σ'10:State,((FYes f ls out p7 order8 σ'10) -> (∃ a11:OE,(((State.objs σ'10 (((((State.next σ) + 1) + 1) + 1) + 1)) = (AObj.cells (OE.cs a11) 26 1 (OE.g a11)))/\
 (((0:Nat) < (List.length (OE.cs a11)))/\
 ((((List.getD (OE.cs a11) 0 AV.undef) = AV.nilslice)/\
 (∃ v12:AV,(∃ b13:Bool,(∃ err14:Int,((R (v12) (b13) (err14) σ'10)/\
 (((TV.v AV.nilslice) = (TV.v (v12)))/\
 (((TV.v (AV.bool true)) = (TV.v (AV.bool (b13))))/\
 (((TV.v (AV.int .i64 0)) = (TV.v (AV.int .i64 (err14))))/\
 True)))))))) \/ (∃ x12:RS,(((List.getD (OE.cs a11) 0 AV.undef) = (AV.rslice (RS.id x12) 0 (RS.n x12)))/\
 (∃ v13:AV,(∃ b14:Bool,(∃ err15:Int,((R (v13) (b14) (err15) σ'10)/\
 (((TV.v (AV.rslice (RS.id x12) 0 (RS.n x12))) = (TV.v (v13)))/\
 (((TV.v (AV.bool true)) = (TV.v (AV.bool (b14))))/\
 (((TV.v (AV.int .i64 0)) = (TV.v (AV.int .i64 (err15))))/\
 True)))))))))))))))/\
 (∀ σ'10:State,((FNo f ls out p7 order8 σ'10) -> (∃ v11:AV,(∃ b12:Bool,(∃ err13:Int,((R (v11) (b12) (err13) σ'10)/\
 (((TV.v AV.nilslice) = (TV.v (v11)))/\
 (((TV.v (AV.bool false)) = (TV.v (AV.bool (b12))))/\
 (((TV.v (AV.int .i64 0)) = (TV.v (AV.int .i64 (err13))))/\
 True)))))))))))))))))))))))))))))))))))):=by kernel_rfl
end Go.V
/- Check: behind the tests. -/
set_option linter.unusedSimpArgs false
set_option linter.unusedSectionVars false
namespace Go.V
open Go Go.Proofs

def checkS (ls:List (List T)) (out:List T):List Nat × Bool × Int :=
 if 8 < ls.length then ([],false,1)
 else if (ls ++ [out]).all (fun l => l.all grT) = false then ([],false,3)
 else if 20000 < prodL ls then ([],false,2)
 else if sumL ls ≠ out.length then ([],false,0)
 else match mgF ls out out.length (List.replicate ls.length 0) with
  | some o => (o,true,0)
  | none => ([],false,0)
def Ret18 (r:List Nat × Bool × Int) (v:AV) (b:Bool) (err:Int) (σ:State):Prop:=∃ vs,[v,.bool b,.int .i64 err].mapM (deep Tryz.prog σ 3) = some vs /\ WkL vs [.slice 1 (intsV r.1) .any,.bool r.2.1,.int .i64 r.2.2]
theorem Ret18.nil {b:Bool} {e:Int} {σ:State} {r:List Nat × Bool × Int} (h:r = ([],b,e)):Ret18 r .nilslice b e σ:=by
 subst h
 exact ⟨_,rfl,.cons (Wk.nil 1) (.cons (.refl _) (.cons (.refl _) .nil))⟩
theorem Ret18.ord {b:Bool} {e:Int} {σ:State} {c:Heap KR} {order:List Nat} {v:AV} (h:At c σ) (hv:OrdV c v order):Ret18 (order,b,e) v b e σ:=by
 rcases hv with ⟨rfl,rfl⟩ | ⟨ov,cs,g,rfl,hov,hle,htk⟩
 ·exact Ret18.nil rfl
 ·have hd:deep Tryz.prog σ 3 (.rslice ov 0 order.length) = some (.slice 1 (intsV order) .nn):=by
   refine deep_rslice (n:=2) (off:=0) (len:=order.length) (h.obj hov) kind3 rfl (by omega) (by omega) ?_
   rw [Nat.zero_mul,List.drop_zero,Nat.mul_one,htk,chunk_one _ _ (by rw [intsV_len]; exact Nat.le_refl _),<-intsV_len order,List.take_length,deep_intsV]
  refine ⟨[.slice 1 (intsV order) .nn,.bool b,.int .i64 e],?_,.cons (Wk.slice 1 _ _) (.cons (.refl _) (.cons (.refl _) .nil))⟩
  simp only [List.mapM_cons,List.mapM_nil,hd]
  rfl

theorem bools0 (n:Nat):List.flatten (List.replicate (Int.toNat (n:Int)) (AV.cells (av (Go.Value.bool false)))) = boolsV (List.replicate n false):=by
 rw [Int.toNat_natCast]
 show List.flatten (List.replicate n [AV.bool false]) = _
 unfold boolsV
 rw [List.map_replicate]
 induction n with
 | zero => rfl
 | succ n ih => rw [List.replicate_succ,List.flatten_cons,ih,List.replicate_succ]; rfl
theorem ints0 (n:Nat):List.flatten (List.replicate n (AV.cells (av (Go.Value.int .i64 0)))) = intsV (List.replicate n 0):=by
 show List.flatten (List.replicate n [AV.int .i64 0]) = _
 unfold intsV
 rw [List.map_replicate]
 induction n with
 | zero => rfl
 | succ n ih => rw [List.replicate_succ,List.flatten_cons,ih,List.replicate_succ]; rfl
theorem Bnd0:∀ ls:List (List T),Bnd ls (List.replicate ls.length 0)
 | [] => trivial
 | l :: ls => ⟨Nat.zero_le _,Bnd0 ls⟩
theorem code0:∀ ls:List (List T),codeL ls (List.replicate ls.length 0) = 0
 | [] => rfl
 | l :: ls => by
  show 0 + (l.length + 1) * codeL ls (List.replicate ls.length 0) = 0
  rw [code0 ls]; rfl
theorem sum0 (n:Nat):(List.replicate n 0).sum = 0:=by simp
theorem BadOk0 (ls:List (List T)) (out:List T):BadOk ls out (List.replicate (prodL ls) false):=⟨List.length_replicate,fun q _ h _ => by
 rw [List.getD_eq_getElem?_getD,List.getElem?_replicate] at h
 split at h <;> cases h⟩

structure In18 (ls:List (List T)) (out:List T) (σ:State) (c:Heap KR):Prop where
 at_:At c σ
 tok:NoTok c
 hls:∃ g,c .ls = some (0,.cells [.slice 1 (lsV ls) .any] 22 1 g)
 hout:∃ g,c .out = some (1,.cells [slV out] 23 1 g)

section
variable {ls:List (List T)} {out:List T} {B:Nat} {w0:World} {G:Nat -> AV}
variable (hG:∀ i,NoId (G i))
include hG

theorem c18b (hsm:∀ l ∈ ls,∀ x ∈ l,x.small) (hp:prodL ls <= 20000) (hlen:ls.length <= 8) (hout:out.length <= 1000000) (r:List Nat × Bool × Int)
  (hr1:∀ o,mgF ls out out.length (List.replicate ls.length 0) = some o -> r = (o,true,0)) (hr2:mgF ls out out.length (List.replicate ls.length 0) = none -> r = ([],false,0)) {σ:State} {c:Heap KR} (hI:In18 ls out σ c) :
  AWp (EV B w0 G) none (fnTmps Tryz.prog 18) (part18b Tryz.prog) (P18' (Ret18 r)) (frm [(2,.v (.ptr 0 0)),(3,.v (.ptr 1 0)),(8,.v (.int .i64 (prodL ls:Int)))] []) σ:=by
 obtain ⟨h,ht,⟨gl,hls⟩,⟨go,hou⟩⟩:=hI
 let f:FI:=⟨σ.next + 1 + 1 + 1 + 1,1,σ.next + 1,σ.next,0,σ.next + 1 + 1 + 1,σ.next + 1 + 1,σ.next + 1 + 1 + 1 + 1 + 1⟩
 have hH:=hnd_ok (EV_mixed B w0 G) (A:=annA) (N:=noHints) (contracts_cons (c61_ok (f:=f) (S:=SizeOf.sizeOf ls + 1) hG (fun l hl x hx => ⟨hsm l hl x hx,by
  have h1:=List.sizeOf_lt_of_mem hl
  have h2:=List.sizeOf_lt_of_mem hx
  omega⟩) hp hlen hout (out.length + 1)) contracts_nil)
 refine wpX_ok (cuts:=cuts18) (L:=fun _ _ _ _ => False) hH (EV_mixed B w0 G) _ _ _ _ (fun _ _ _ Q a σ k => k.elim) (by kernel_rfl) ((vc18b B w0 G f ls out (out.length + 1) _ σ).mpr ?_)
 have h1:=h.new .bo (.cells (List.flatten (List.replicate (Int.toNat (prodL ls:Int)) (AV.cells (av (Go.Value.bool false))))) 4 1 false)
 have h2:=h1.new .bc (.cells [.nilslice] 122 1 false)
 have e2:(hup (hup c .bo (some (σ.next,.cells (List.flatten (List.replicate (Int.toNat (prodL ls:Int)) (AV.cells (av (Go.Value.bool false))))) 4 1 false))) .bc (some (σ.next + 1,.cells [.nilslice] 122 1 false))) .bc = some (σ.next + 1,.cells [.nilslice] 122 1 false):=rfl
 have h3:=h2.set e2 (.cells [.rslice σ.next 0 (prodL ls)] 122 1 false)
 obtain ⟨c3,hc3,b3,d3,l3,o3,t3⟩:∃ c3:Heap KR,At c3 (((σ.new (.cells (List.flatten (List.replicate (Int.toNat (prodL ls:Int)) (AV.cells (av (Go.Value.bool false))))) 4 1 false)).new (.cells [.nilslice] 122 1 false)).set (σ.next + 1) (.cells [.rslice σ.next 0 (prodL ls)] 122 1 false)) /\
   c3 .bo = some (σ.next,.cells (boolsV (List.replicate (prodL ls) false)) 4 1 false) /\ c3 .bc = some (σ.next + 1,.cells [.rslice σ.next 0 (prodL ls)] 122 1 false) /\ c3 .ls = c .ls /\ c3 .out = c .out /\ NoTok c3 :=
  ⟨_,h3,by rw [<-bools0]; rfl,rfl,rfl,rfl,ht.up.up.up⟩
 refine ⟨⟨by omega,by omega,by omega,by omega⟩,⟨[.nilslice],false⟩,h2.obj e2,Nat.le_refl _,gl,hc3.obj (by rw [l3]; exact hls),Nat.zero_lt_one,?_⟩
 have h4:=hc3.new .ao (.cells (List.flatten (List.replicate (Int.toNat ((lsV ls).length:Int)) (AV.cells (av (Go.Value.int .i64 0))))) 3 1 false)
 have h5:=h4.new .ac (.cells [.nilslice] 26 1 false)
 obtain ⟨c5,hc5,a5,b5,r5,t5⟩:∃ c5:Heap KR,At c5 _ /\ c5 .ac = some (σ.next + 1 + 1 + 1,.cells [.nilslice] 26 1 false) /\ c5 .ao = some (σ.next + 1 + 1,.cells (List.flatten (List.replicate (Int.toNat ((lsV ls).length:Int)) (AV.cells (av (Go.Value.int .i64 0))))) 3 1 false) /\
   (∀ q,q ≠ .ao -> q ≠ .ac -> c5 q = c3 q) /\ NoTok c5:=⟨_,h5,rfl,rfl,fun q k1 k2 => by rw [hup_ne k2,hup_ne k1],t3.up.up⟩
 refine ⟨⟨by omega,by omega,by rw [lsV_len]; omega,by rw [lsV_len]; omega⟩,⟨[.nilslice],false⟩,hc5.obj a5,Nat.le_refl _,?_⟩
 have h6:=hc5.set a5 (.cells [.rslice (σ.next + 1 + 1) 0 (Int.toNat ((lsV ls).length:Int))] 26 1 false)
 have h8:=(h6.new .oc (.cells [.nilslice] 26 1 false)).new .fc (.cells [.nilfunc] 123 1 false)
 obtain ⟨c8,hc8,f8,o8,a8,r8,t8⟩:∃ c8:Heap KR,At c8 _ /\ c8 .fc = some (σ.next + 1 + 1 + 1 + 1 + 1,.cells [.nilfunc] 123 1 false) /\ c8 .oc = some (σ.next + 1 + 1 + 1 + 1,.cells [.nilslice] 26 1 false) /\
   c8 .ac = some (σ.next + 1 + 1 + 1,.cells [.rslice (σ.next + 1 + 1) 0 (Int.toNat ((lsV ls).length:Int))] 26 1 false) /\ (∀ q,q ≠ .ac -> q ≠ .oc -> q ≠ .fc -> c8 q = c5 q) /\ NoTok c8 :=
  ⟨_,h8,rfl,rfl,rfl,fun q k1 k2 k3 => by rw [hup_ne k3,hup_ne k2,hup_ne k1],t5.up.up.up⟩
 refine ⟨⟨[.nilfunc],false⟩,hc8.obj f8,Nat.le_refl _,?_⟩
 have h9:=hc8.set f8 (.cells [f.fn] 123 1 false)
 have elen:Int.toNat ((lsV ls).length:Int) = ls.length:=by rw [Int.toNat_natCast,lsV_len]
 have hF:FRep f ls out (List.replicate ls.length 0) [] (List.replicate (prodL ls) false) (hup c8 .fc (some (σ.next + 1 + 1 + 1 + 1 + 1,.cells [f.fn] 123 1 false))):={
  tok:=t8.up
  hls:=⟨gl,by rw [hup_ne (by simp),r8 _ (by simp) (by simp) (by simp),r5 _ (by simp) (by simp),l3,hls]⟩
  hout:=⟨go,by rw [hup_ne (by simp),r8 _ (by simp) (by simp) (by simp),r5 _ (by simp) (by simp),o3,hou]⟩
  hbc:=⟨false,by rw [hup_ne (by simp),r8 _ (by simp) (by simp) (by simp),r5 _ (by simp) (by simp),d3]⟩
  hbo:=⟨false,by rw [hup_ne (by simp),r8 _ (by simp) (by simp) (by simp),r5 _ (by simp) (by simp),b3]⟩
  hac:=⟨false,by rw [hup_ne (by simp),a8,elen]⟩
  hao:=⟨false,by rw [hup_ne (by simp),r8 _ (by simp) (by simp) (by simp),b5,elen,ints0]⟩
  hfc:=⟨false,hup_self⟩
  hoc:=⟨.nilslice,false,by rw [hup_ne (by simp),o8],.inl ⟨rfl,rfl⟩⟩ }
 have hs0:out.length - (List.replicate ls.length 0).sum = out.length:=by rw [sum0]; rfl
 refine ⟨⟨[f.fn],false⟩,h9.obj hup_self,Nat.zero_lt_one,f,rfl,0,List.replicate ls.length 0,[],List.replicate (prodL ls) false,rfl,⟨⟨_,h9,hF⟩,Bnd0 ls,by rw [sum0]; rfl,by rw [sum0]; omega,by rw [sum0]; omega,(code0 ls).symm,BadOk0 ls out⟩,fun σ' hY => ?_,fun σ' hN => ?_⟩
 ·obtain ⟨o,p',bad,c',k1,k2,k3⟩:=hY
  rw [hs0] at k1
  rw [List.nil_append] at k3
  obtain ⟨v,g,hoc,hv⟩:=k3.hoc
  have hR:=Ret18.ord (b:=true) (e:=0) k2 hv
  rw [<-hr1 o k1] at hR
  refine ⟨⟨[v],g⟩,k2.obj hoc,Nat.zero_lt_one,?_⟩
  rcases hv with ⟨rfl,_⟩ | ⟨ov,cs,gv,rfl,_⟩
  ·exact .inl ⟨rfl,_,_,_,hR,rfl,rfl,rfl,trivial⟩
  ·exact .inr ⟨⟨ov,o.length⟩,rfl,_,_,_,hR,rfl,rfl,rfl,trivial⟩
 ·obtain ⟨bad,c',k1,k2,k3,k4⟩:=hN
  rw [hs0] at k1
  exact ⟨_,_,_,Ret18.nil (hr2 k1),rfl,rfl,rfl,trivial⟩
end
end Go.V
