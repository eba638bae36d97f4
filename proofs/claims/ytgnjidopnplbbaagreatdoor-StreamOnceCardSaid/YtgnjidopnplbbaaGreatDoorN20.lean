import Derived.Test.YtgnjidopnplbbaaGreatDoorN19
/- Conditions: inputs that become free: the outer loop, the last one. -/
set_option maxRecDepth 1000000
set_option linter.unusedVariables false
namespace Go.V
open Go Go.Proofs

def F87o (L:ML) (z:Z87):List (Nat × TV):=[(0,.v (.ptr L.M 0)),(4,.v (.rslice z.tid 0 z.td.length)),(5,.v z.nv)]
def T87i (L:ML) (I0:Z87 -> Nat -> AV -> Nat -> Prop) (P:Z87 -> Nat -> AV -> Nat -> Z87 -> Prop):LHand:=fun _ Q a σ => ∃ (z:Z87) (id:Nat) (bv:AV) (nb:Nat),I0 z id bv nb /\ atF a (F87i L id bv nb z) [] (z.σ.Le σ) /\
 ∀ z':Z87,P z id bv nb z' -> Q (.exit 2) (frm (F87i L id bv nb z') []) z'.σ
def ls87o (L:ML) (I:Z87 -> Prop) (μ:Z87 -> Nat):LS Z87 where
 F z:=F87o L z
 FL _:=[]
 S z:=z.σ
 I:=I
 μ:=μ
 Ex z e a σ:=match e with
  | .exit 0 => z.td.length = 0 /\ atF a (F87o L z) [] (z.σ.Le σ)
  | _ => False
theorem fnParts_87c:fnParts Tryz.prog [15] 87 = [.loop (bodyOf (fnPart Tryz.prog [15] 87 0)),fnPart Tryz.prog [15] 87 1]:=by kernel_rfl
theorem part87:fnPart Tryz.prog [15] 87 0 = fnPart Tryz.prog [] 87 0:=by kernel_rfl
theorem headId_87:headId (.loop (bodyOf (fnPart Tryz.prog [15] 87 0))) = some 2 /\ headId (fnPart Tryz.prog [15] 87 1) = some 15 /\ headId (.loop (bodyOf (subPart [] (fnPart Tryz.prog [] 87 0) 0))) = some 7:=⟨by kernel_rfl,by kernel_rfl,by kernel_rfl⟩
theorem vc87i0 (B:Nat) (w0:World) (G:Nat -> AV) (L:ML) (id:Nat) (I:Z87 -> Prop) (z:Z87):(wpX [] (EV B w0 G) (H87 (EV B w0 G)) (fun _ _ _ _ => False) (A87 87) (N87i false) (bodyOf (subPart [] (fnPart Tryz.prog [] 87 0) 0)) ((ls87i L id .nilslice 0 I).post z) (frm [(0,.v (.ptr L.M 0)),(4,.v (.rslice z.tid 0 z.td.length)),(5,.v z.nv),(6,.v (.ptr id 0)),(49,.v .nilslice),(50,.v (.int .i64 0)),(51,.v (.int .i64 (z.j:Int)))] []) z.σ) =
 ((((Z87.j z:Nat) = 0)/\
 ((Rf (TV.v (AV.ptr (ML.M L) 0)))/\
 ((Rf (TV.v (AV.rslice (Z87.tid z) 0 (List.length (Z87.td z)))))/\
 ((Rf (TV.v (Z87.nv z)))/\
 ((Rf (TV.v (AV.ptr (id) 0)))/\
 ((Rf (TV.v AV.nilslice))/\
 ((Rf (TV.v (AV.int .i64 0)))/\
 ((Rf (TV.v (AV.int .i64 ((Z87.j z:Nat):Int))))/\
 (State.Le (z.1) (z.1))))))))))):=by kernel_rfl
def N87o (r:Bool):FnHint:=hAt [(3,4,hEl 155 1),(3,5,hPtr),(4,4,hEl 155 1),(5,3,hI),(5,9,hI),(6,3,match r with | true => hIR | false => hIN),(14,3,hI)]
theorem vc87on (B:Nat) (w0:World) (G:Nat -> AV) (L:ML) (I0:Z87 -> Nat -> AV -> Nat -> Prop) (P:Z87 -> Nat -> AV -> Nat -> Z87 -> Prop) (I:Z87 -> Prop) (μ:Z87 -> Nat) (z:Z87):(wpX [] (EV B w0 G) (H87 (EV B w0 G)) (T87i L I0 P) (A87 87) (N87o false) (bodyOf (fnPart Tryz.prog [] 87 0)) ((ls87o L I μ).post z) (frm (F87o L z) []) z.σ) =
 ((bcase (decide (((((List.length (Z87.td z)):Nat):Int):Int) > 0))
 (∃ a0:OE,(((State.objs (z.1) (Z87.tid z)) = (AObj.cells (OE.cs a0) 155 1 (OE.g a0)))/\
 ((((0:Int) <= (IntKind.wrap .i64 ((((List.length (Z87.td z)):Nat):Int) - 1)))/\
 (((IntKind.wrap .i64 ((((List.length (Z87.td z)):Nat):Int) - 1)):Int) < (((List.length (Z87.td z)):Nat):Int)))/\
 (∃ a1:OE,(((State.objs (z.1) (Z87.tid z)) = (AObj.cells (OE.cs a1) 155 1 (OE.g a1)))/\
 (((((0 + (Int.toNat (IntKind.wrap .i64 ((((List.length (Z87.td z)):Nat):Int) - 1)))) * 1):Nat) < (List.length (OE.cs a1)))/\
 (∃ x2:Nat,(((List.getD (OE.cs a1) ((0 + Int.toNat (IntKind.wrap .i64 ((↑(List.length (Z87.td z)):Int) - 1))) * 1) AV.undef) = (AV.ptr (x2) 0))/\
 (∃ a3:OE,(((State.objs (z.1) (Z87.tid z)) = (AObj.cells (OE.cs a3) 155 1 (OE.g a3)))/\
 ((((0:Int) <= (IntKind.wrap .i64 ((((List.length (Z87.td z)):Nat):Int) - 1)))/\
 (((IntKind.wrap .i64 ((((List.length (Z87.td z)):Nat):Int) - 1)):Int) <= (((List.length (Z87.td z)):Nat):Int)))/\
 (∃ a4:OI,(((State.objs (z.1) (x2)) = (AObj.cells [(AV.bool (OI.op a4)),(AV.bool (OI.fr a4)),(OI.bv a4),(OI.qv a4),(OI.qf a4)] 159 5 false))/\
 (((1:Nat) < 5)/\
 (bcase (!(OI.fr a4))
 (∃ x'5:Z87,(((I (x'5))/\
 (((LS.μ (ls87o L I μ) x'5):Nat) < (LS.μ (ls87o L I μ) z)))/\
 ((Rf (TV.v (AV.ptr (ML.M L) 0)))/\
 (((TV.v (AV.rslice (Z87.tid z) 0 ((Int.toNat (IntKind.wrap .i64 ((((List.length (Z87.td z)):Nat):Int) - 1))) - 0))) = (TV.v (AV.rslice (Z87.tid x'5) 0 (List.length (Z87.td x'5)))))/\
 (((TV.v (Z87.nv z)) = (TV.v (Z87.nv x'5)))/\
 (State.Le ((ls87o L I μ).3 x'5) (z.1)))))))
 (∃ a5:OI,(((State.objs (z.1) (x2)) = (AObj.cells [(AV.bool (OI.op a5)),(AV.bool (OI.fr a5)),(OI.bv a5),(OI.qv a5),(OI.qf a5)] 159 5 false))/\
 (((0:Nat) < 5)/\
 (bcase (OI.op a5)
 (∃ x'6:Z87,(((I (x'6))/\
 (((LS.μ (ls87o L I μ) x'6):Nat) < (LS.μ (ls87o L I μ) z)))/\
 ((Rf (TV.v (AV.ptr (ML.M L) 0)))/\
 (((TV.v (AV.rslice (Z87.tid z) 0 ((Int.toNat (IntKind.wrap .i64 ((((List.length (Z87.td z)):Nat):Int) - 1))) - 0))) = (TV.v (AV.rslice (Z87.tid x'6) 0 (List.length (Z87.td x'6)))))/\
 (((TV.v (Z87.nv z)) = (TV.v (Z87.nv x'6)))/\
 (State.Le ((ls87o L I μ).3 x'6) (z.1)))))))
 (∃ c6:MH,(∃ r7:MRole,(∃ s8:MRole,(∃ id9:Nat,(∃ A10:List AV,(∃ Bs11:List AV,(∃ oe12:Nat,(∃ osz13:Nat,(∃ og14:Bool,(∃ lv15:AV,(∃ fr16:Nat,(∃ n17:Nat,(∃ vals18:List AV,(∃ off19:Nat,(([(AV.ptr (x2) 3)] = [(AV.ptr (id9) (off19))])/\
 (((At c6 (Z87.σ z))/\
 ((QP c6 r7 s8 id9 A10 Bs11 oe12 osz13 og14 37 4 lv15 fr16 n17 vals18)/\
 ((((off19):Nat) = (List.length (A10)))/\
 (((n17):Nat) <= 100000))))/\
 (bcase (decide ((((n17:Nat):Int):Int) > 0))
 (∃ x'20:Z87,(((I (x'20))/\
 (((LS.μ (ls87o L I μ) x'20):Nat) < (LS.μ (ls87o L I μ) z)))/\
 ((Rf (TV.v (AV.ptr (ML.M L) 0)))/\
 (((TV.v (AV.rslice (Z87.tid z) 0 ((Int.toNat (IntKind.wrap .i64 ((((List.length (Z87.td z)):Nat):Int) - 1))) - 0))) = (TV.v (AV.rslice (Z87.tid x'20) 0 (List.length (Z87.td x'20)))))/\
 (((TV.v (Z87.nv z)) = (TV.v (Z87.nv x'20)))/\
 (State.Le ((ls87o L I μ).3 x'20) (z.1)))))))
 (∃ a20:OI,(((State.objs (z.1) (x2)) = (AObj.cells [(AV.bool (OI.op a20)),(AV.bool (OI.fr a20)),(OI.bv a20),(OI.qv a20),(OI.qf a20)] 159 5 false))/\
 (((2:Nat) < 5)/\
 (∃ x21:Unit,(((List.getD [AV.bool (OI.op a20),AV.bool (OI.fr a20),OI.bv a20,OI.qv a20,OI.qf a20] 2 AV.undef) = AV.nilslice)/\
 (∃ z22:Z87,(∃ id23:Nat,(∃ bv24:AV,(∃ nb25:Nat,((I0 (z22) (id23) (bv24) (nb25))/\
 (((Rf (TV.v (AV.ptr (ML.M L) 0)))/\
 (((TV.v (AV.rslice (Z87.tid z) 0 ((Int.toNat (IntKind.wrap .i64 ((((List.length (Z87.td z)):Nat):Int) - 1))) - 0))) = (TV.v (AV.rslice (Z87.tid z22) 0 (List.length (Z87.td z22)))))/\
 (((TV.v (Z87.nv z)) = (TV.v (Z87.nv z22)))/\
 (((TV.v (AV.ptr (x2) 0)) = (TV.v (AV.ptr (id23) 0)))/\
 (((TV.v AV.nilslice) = (TV.v (bv24)))/\
 (((TV.v (AV.int .i64 0)) = (TV.v (AV.int .i64 ((nb25:Nat):Int))))/\
 (((TV.v (AV.int .i64 0)) = (TV.v (AV.int .i64 ((Z87.j z22:Nat):Int))))/\
 (State.Le (z22.1) (z.1)))))))))/\
 (∀ z'26:Z87,((P (z22) (id23) (bv24) (nb25) (z'26)) -> (∃ a27:OI,(((State.objs (z'26.1) (id23)) = (AObj.cells [(AV.bool (OI.op a27)),(AV.bool (OI.fr a27)),(OI.bv a27),(OI.qv a27),(OI.qf a27)] 159 5 false))/\
 (((3:Nat) <= 5)/\
 (∃ x'28:Z87,(((I (x'28))/\
 (((LS.μ (ls87o L I μ) x'28):Nat) < (LS.μ (ls87o L I μ) z)))/\
 ((Rf (TV.v (AV.ptr (ML.M L) 0)))/\
 (((TV.v (AV.rslice (Z87.tid z'26) 0 (List.length (Z87.td z'26)))) = (TV.v (AV.rslice (Z87.tid x'28) 0 (List.length (Z87.td x'28)))))/\
 (((TV.v (Z87.nv z'26)) = (TV.v (Z87.nv x'28)))/\
 (State.Le ((ls87o L I μ).3 x'28) (State.set (z'26.1) (id23) (AObj.cells [(AV.bool (OI.op a27)),(AV.bool (OI.fr a27)),AV.nilslice,(OI.qv a27),(OI.qf a27)] 159 5 false))))))))))))))))))))))))))))))))))))))))))))))))))))))))))))
 ((((List.length (Z87.td z)):Nat) = 0)/\
 ((Rf (TV.v (AV.ptr (ML.M L) 0)))/\
 ((Rf (TV.v (AV.rslice (Z87.tid z) 0 (List.length (Z87.td z)))))/\
 ((Rf (TV.v (Z87.nv z)))/\
 (State.Le (z.1) (z.1)))))))):=by kernel_rfl
theorem vc87or (B:Nat) (w0:World) (G:Nat -> AV) (L:ML) (I0:Z87 -> Nat -> AV -> Nat -> Prop) (P:Z87 -> Nat -> AV -> Nat -> Z87 -> Prop) (I:Z87 -> Prop) (μ:Z87 -> Nat) (z:Z87):(wpX [] (EV B w0 G) (H87 (EV B w0 G)) (T87i L I0 P) (A87 87) (N87o true) (bodyOf (fnPart Tryz.prog [] 87 0)) ((ls87o L I μ).post z) (frm (F87o L z) []) z.σ) =
 ((bcase (decide (((((List.length (Z87.td z)):Nat):Int):Int) > 0))
 (∃ a0:OE,(((State.objs (z.1) (Z87.tid z)) = (AObj.cells (OE.cs a0) 155 1 (OE.g a0)))/\
 ((((0:Int) <= (IntKind.wrap .i64 ((((List.length (Z87.td z)):Nat):Int) - 1)))/\
 (((IntKind.wrap .i64 ((((List.length (Z87.td z)):Nat):Int) - 1)):Int) < (((List.length (Z87.td z)):Nat):Int)))/\
 (∃ a1:OE,(((State.objs (z.1) (Z87.tid z)) = (AObj.cells (OE.cs a1) 155 1 (OE.g a1)))/\
 (((((0 + (Int.toNat (IntKind.wrap .i64 ((((List.length (Z87.td z)):Nat):Int) - 1)))) * 1):Nat) < (List.length (OE.cs a1)))/\
 (∃ x2:Nat,(((List.getD (OE.cs a1) ((0 + Int.toNat (IntKind.wrap .i64 ((↑(List.length (Z87.td z)):Int) - 1))) * 1) AV.undef) = (AV.ptr (x2) 0))/\
 (∃ a3:OE,(((State.objs (z.1) (Z87.tid z)) = (AObj.cells (OE.cs a3) 155 1 (OE.g a3)))/\
 ((((0:Int) <= (IntKind.wrap .i64 ((((List.length (Z87.td z)):Nat):Int) - 1)))/\
 (((IntKind.wrap .i64 ((((List.length (Z87.td z)):Nat):Int) - 1)):Int) <= (((List.length (Z87.td z)):Nat):Int)))/\
 (∃ a4:OI,(((State.objs (z.1) (x2)) = (AObj.cells [(AV.bool (OI.op a4)),(AV.bool (OI.fr a4)),(OI.bv a4),(OI.qv a4),(OI.qf a4)] 159 5 false))/\
 (((1:Nat) < 5)/\
 (bcase (!(OI.fr a4))
 (∃ x'5:Z87,(((I (x'5))/\
 (((LS.μ (ls87o L I μ) x'5):Nat) < (LS.μ (ls87o L I μ) z)))/\
 ((Rf (TV.v (AV.ptr (ML.M L) 0)))/\
 (((TV.v (AV.rslice (Z87.tid z) 0 ((Int.toNat (IntKind.wrap .i64 ((((List.length (Z87.td z)):Nat):Int) - 1))) - 0))) = (TV.v (AV.rslice (Z87.tid x'5) 0 (List.length (Z87.td x'5)))))/\
 (((TV.v (Z87.nv z)) = (TV.v (Z87.nv x'5)))/\
 (State.Le ((ls87o L I μ).3 x'5) (z.1)))))))
 (∃ a5:OI,(((State.objs (z.1) (x2)) = (AObj.cells [(AV.bool (OI.op a5)),(AV.bool (OI.fr a5)),(OI.bv a5),(OI.qv a5),(OI.qf a5)] 159 5 false))/\
 (((0:Nat) < 5)/\
 (bcase (OI.op a5)
 (∃ x'6:Z87,(((I (x'6))/\
 (((LS.μ (ls87o L I μ) x'6):Nat) < (LS.μ (ls87o L I μ) z)))/\
 ((Rf (TV.v (AV.ptr (ML.M L) 0)))/\
 (((TV.v (AV.rslice (Z87.tid z) 0 ((Int.toNat (IntKind.wrap .i64 ((((List.length (Z87.td z)):Nat):Int) - 1))) - 0))) = (TV.v (AV.rslice (Z87.tid x'6) 0 (List.length (Z87.td x'6)))))/\
 (((TV.v (Z87.nv z)) = (TV.v (Z87.nv x'6)))/\
 (State.Le ((ls87o L I μ).3 x'6) (z.1)))))))
 (∃ c6:MH,(∃ r7:MRole,(∃ s8:MRole,(∃ id9:Nat,(∃ A10:List AV,(∃ Bs11:List AV,(∃ oe12:Nat,(∃ osz13:Nat,(∃ og14:Bool,(∃ lv15:AV,(∃ fr16:Nat,(∃ n17:Nat,(∃ vals18:List AV,(∃ off19:Nat,(([(AV.ptr (x2) 3)] = [(AV.ptr (id9) (off19))])/\
 (((At c6 (Z87.σ z))/\
 ((QP c6 r7 s8 id9 A10 Bs11 oe12 osz13 og14 37 4 lv15 fr16 n17 vals18)/\
 ((((off19):Nat) = (List.length (A10)))/\
 (((n17):Nat) <= 100000))))/\
 (bcase (decide ((((n17:Nat):Int):Int) > 0))
 (∃ x'20:Z87,(((I (x'20))/\
 (((LS.μ (ls87o L I μ) x'20):Nat) < (LS.μ (ls87o L I μ) z)))/\
 ((Rf (TV.v (AV.ptr (ML.M L) 0)))/\
 (((TV.v (AV.rslice (Z87.tid z) 0 ((Int.toNat (IntKind.wrap .i64 ((((List.length (Z87.td z)):Nat):Int) - 1))) - 0))) = (TV.v (AV.rslice (Z87.tid x'20) 0 (List.length (Z87.td x'20)))))/\
 (((TV.v (Z87.nv z)) = (TV.v (Z87.nv x'20)))/\
 (State.Le ((ls87o L I μ).3 x'20) (z.1)))))))
 (∃ a20:OI,(((State.objs (z.1) (x2)) = (AObj.cells [(AV.bool (OI.op a20)),(AV.bool (OI.fr a20)),(OI.bv a20),(OI.qv a20),(OI.qf a20)] 159 5 false))/\
 (((2:Nat) < 5)/\
 (∃ x21:RS,(((List.getD [AV.bool (OI.op a20),AV.bool (OI.fr a20),OI.bv a20,OI.qv a20,OI.qf a20] 2 AV.undef) = (AV.rslice (RS.id x21) 0 (RS.n x21)))/\
 (∃ z22:Z87,(∃ id23:Nat,(∃ bv24:AV,(∃ nb25:Nat,((I0 (z22) (id23) (bv24) (nb25))/\
 (((Rf (TV.v (AV.ptr (ML.M L) 0)))/\
 (((TV.v (AV.rslice (Z87.tid z) 0 ((Int.toNat (IntKind.wrap .i64 ((((List.length (Z87.td z)):Nat):Int) - 1))) - 0))) = (TV.v (AV.rslice (Z87.tid z22) 0 (List.length (Z87.td z22)))))/\
 (((TV.v (Z87.nv z)) = (TV.v (Z87.nv z22)))/\
 (((TV.v (AV.ptr (x2) 0)) = (TV.v (AV.ptr (id23) 0)))/\
 (((TV.v (AV.rslice (RS.id x21) 0 (RS.n x21))) = (TV.v (bv24)))/\
 (((TV.v (AV.int .i64 ((RS.n x21:Nat):Int))) = (TV.v (AV.int .i64 ((nb25:Nat):Int))))/\
 (((TV.v (AV.int .i64 0)) = (TV.v (AV.int .i64 ((Z87.j z22:Nat):Int))))/\
 (State.Le (z22.1) (z.1)))))))))/\
 (∀ z'26:Z87,((P (z22) (id23) (bv24) (nb25) (z'26)) -> (∃ a27:OI,(((State.objs (z'26.1) (id23)) = (AObj.cells [(AV.bool (OI.op a27)),(AV.bool (OI.fr a27)),(OI.bv a27),(OI.qv a27),(OI.qf a27)] 159 5 false))/\
 (((3:Nat) <= 5)/\
 (∃ x'28:Z87,(((I (x'28))/\
 (((LS.μ (ls87o L I μ) x'28):Nat) < (LS.μ (ls87o L I μ) z)))/\
 ((Rf (TV.v (AV.ptr (ML.M L) 0)))/\
 (((TV.v (AV.rslice (Z87.tid z'26) 0 (List.length (Z87.td z'26)))) = (TV.v (AV.rslice (Z87.tid x'28) 0 (List.length (Z87.td x'28)))))/\
 (((TV.v (Z87.nv z'26)) = (TV.v (Z87.nv x'28)))/\
 (State.Le ((ls87o L I μ).3 x'28) (State.set (z'26.1) (id23) (AObj.cells [(AV.bool (OI.op a27)),(AV.bool (OI.fr a27)),AV.nilslice,(OI.qv a27),(OI.qf a27)] 159 5 false))))))))))))))))))))))))))))))))))))))))))))))))))))))))))))
 ((((List.length (Z87.td z)):Nat) = 0)/\
 ((Rf (TV.v (AV.ptr (ML.M L) 0)))/\
 ((Rf (TV.v (AV.rslice (Z87.tid z) 0 (List.length (Z87.td z)))))/\
 ((Rf (TV.v (Z87.nv z)))/\
 (State.Le (z.1) (z.1)))))))):=by kernel_rfl
structure Y87 where
 σ:State
 c:MH
 L:ML
 p:PM
 j:Nat
def F87l (M:Nat) (nv:AV) (nn:Nat) (y:Y87):List (Nat × TV):=[(0,.v (.ptr M 0)),(80,.v nv),(81,.v (.int .i64 (nn:Int))),(82,.v (.int .i64 (y.j:Int)))]
def ls87l (M:Nat) (nv:AV) (nn:Nat) (I:Y87 -> Prop):LS Y87 where
 F y:=F87l M nv nn y
 FL _:=[]
 S y:=y.σ
 I:=I
 μ y:=nn - y.j
 Ex y e a σ:=match e with
  | .exit 4 => y.j = nn /\ atF a [] [] (y.σ.Le σ)
  | _ => False
def N87l:FnHint:=hAt [(18,0,hEl 3 1),(18,1,hElInt),(19,4,hMR),(19,6,hEl 155 1),(19,7,hPtr)]
theorem subParts_87l:partsIn [] (fnPart Tryz.prog [15] 87 1) = [.loop (bodyOf (subPart [] (fnPart Tryz.prog [15] 87 1) 0))]:=by kernel_rfl
theorem vc87l (B:Nat) (w0:World) (G:Nat -> AV) (M nid nn:Nat) (I:Y87 -> Prop) (y:Y87):(wpX [] (EV B w0 G) (H87 (EV B w0 G)) (fun _ _ _ _ => False) (A87 87) N87l (bodyOf (subPart [] (fnPart Tryz.prog [15] 87 1) 0)) ((ls87l M (.rslice nid 0 nn) nn I).post y) (frm (F87l M (.rslice nid 0 nn) nn y) []) y.σ) =
 ((bcase (decide ((((Y87.j y:Nat):Int):Int) < ((nn:Nat):Int)))
 (∃ a0:OE,(((State.objs (y.1) (nid)) = (AObj.cells (OE.cs a0) 3 1 (OE.g a0)))/\
 ((((0:Int) <= ((Y87.j y:Nat):Int))/\
 ((((Y87.j y:Nat):Int):Int) < ((nn:Nat):Int)))/\
 (∃ a1:OE,(((State.objs (y.1) (nid)) = (AObj.cells (OE.cs a1) 3 1 (OE.g a1)))/\
 (((((0 + (Int.toNat ((Y87.j y:Nat):Int))) * 1):Nat) < (List.length (OE.cs a1)))/\
 (∃ x2:Nat,(((List.getD (OE.cs a1) ((0 + Int.toNat (↑(Y87.j y):Int)) * 1) AV.undef) = (AV.int .i64 ((x2:Nat):Int)))/\
 (∃ a3:OM,(((State.objs (y.1) (M)) = (AObj.cells [(OM.iv a3),(OM.tv a3),(OM.tf a3),(AV.int .i64 ((OM.came a3:Nat):Int)),(AV.int .i64 ((OM.gone a3:Nat):Int)),(AV.int .i64 ((OM.work a3:Nat):Int)),(AV.int .i64 ((OM.count a3:Nat):Int))] 153 7 false))/\
 (((0:Nat) < 7)/\
 (∃ x4:RS,(((List.getD [OM.iv a3,OM.tv a3,OM.tf a3,AV.int .i64 (↑(OM.came a3):Int),AV.int .i64 (↑(OM.gone a3):Int),AV.int .i64 (↑(OM.work a3):Int),AV.int .i64 (↑(OM.count a3):Int)] 0 AV.undef) = (AV.rslice (RS.id x4) 0 (RS.n x4)))/\
 (∃ a5:OE,(((State.objs (y.1) (RS.id x4)) = (AObj.cells (OE.cs a5) 155 1 (OE.g a5)))/\
 ((((0:Int) <= ((x2:Nat):Int))/\
 ((((x2:Nat):Int):Int) < ((RS.n x4:Nat):Int)))/\
 (∃ a6:OE,(((State.objs (y.1) (RS.id x4)) = (AObj.cells (OE.cs a6) 155 1 (OE.g a6)))/\
 (((((0 + (Int.toNat ((x2:Nat):Int))) * 1):Nat) < (List.length (OE.cs a6)))/\
 (∃ x7:Nat,(((List.getD (OE.cs a6) ((0 + Int.toNat (↑x2:Int)) * 1) AV.undef) = (AV.ptr (x7) 0))/\
 (∃ c8:MH,(∃ r9:MRole,(∃ s10:MRole,(∃ id11:Nat,(∃ A12:List AV,(∃ Bs13:List AV,(∃ oe14:Nat,(∃ osz15:Nat,(∃ og16:Bool,(∃ lv17:AV,(∃ fr18:Nat,(∃ n19:Nat,(∃ vals20:List AV,(∃ off21:Nat,(([(AV.ptr (x7) 3)] = [(AV.ptr (id11) (off21))])/\
 (((At c8 (Y87.σ y))/\
 ((QP c8 r9 s10 id11 A12 Bs13 oe14 osz15 og16 37 4 lv17 fr18 n19 vals20)/\
 ((((off21):Nat) = (List.length (A12)))/\
 (((n19):Nat) <= 100000))))/\
 (bcase (decide ((((n19:Nat):Int):Int) > 0))
 (∃ c22:MH,(∃ r23:MRole,(∃ s24:MRole,(∃ id25:Nat,(∃ A26:List AV,(∃ Bs27:List AV,(∃ oe28:Nat,(∃ osz29:Nat,(∃ og30:Bool,(∃ lv31:AV,(∃ fr32:Nat,(∃ n33:Nat,(∃ vals34:List AV,(∃ off35:Nat,(∃ x36:Int,(([(AV.ptr (M) 1),(AV.int .i64 ((x2:Nat):Int))] = [(AV.ptr (id25) (off35)),(AV.int .i64 (x36))])/\
 (((At c22 (Y87.σ y))/\
 ((QP c22 r23 s24 id25 A26 Bs27 oe28 osz29 og30 3 1 lv31 fr32 n33 vals34)/\
 ((((off35):Nat) = (List.length (A26)))/\
 (((n33):Nat) <= 100000))))/\
 (∀ lv'37:AV,(∀ c'38:MH,(∀ σ'39:State,(((At c'38 σ'39)/\
 ((QP c'38 r23 s24 id25 A26 Bs27 oe28 osz29 og30 3 1 lv'37 fr32 (n33 + 1) (vals34 ++ AV.cells (AV.int .i64 x36)))/\
 (∀ q40:MRole,(((q40 ∈ [r23,s24]) -> False) -> ((c'38 q40) = (c22 q40)))))) -> (∃ x'40:Y87,(((I (x'40))/\
 (((LS.μ (ls87l M (AV.rslice nid 0 nn) nn I) x'40):Nat) < (LS.μ (ls87l M (AV.rslice nid 0 nn) nn I) y)))/\
 ((Rf (TV.v (AV.ptr (M) 0)))/\
 ((Rf (TV.v (AV.rslice (nid) 0 (nn))))/\
 ((Rf (TV.v (AV.int .i64 ((nn:Nat):Int))))/\
 (((TV.v (AV.int .i64 (IntKind.wrap .i64 (((Y87.j y:Nat):Int) + 1)))) = (TV.v (AV.int .i64 ((Y87.j x'40:Nat):Int))))/\
 (State.Le ((ls87l M (AV.rslice nid 0 nn) nn I).3 x'40) σ'39))))))))))))))))))))))))))))
 (∃ x'22:Y87,(((I (x'22))/\
 (((LS.μ (ls87l M (AV.rslice nid 0 nn) nn I) x'22):Nat) < (LS.μ (ls87l M (AV.rslice nid 0 nn) nn I) y)))/\
 ((Rf (TV.v (AV.ptr (M) 0)))/\
 ((Rf (TV.v (AV.rslice (nid) 0 (nn))))/\
 ((Rf (TV.v (AV.int .i64 ((nn:Nat):Int))))/\
 (((TV.v (AV.int .i64 (IntKind.wrap .i64 (((Y87.j y:Nat):Int) + 1)))) = (TV.v (AV.int .i64 ((Y87.j x'22:Nat):Int))))/\
 (State.Le ((ls87l M (AV.rslice nid 0 nn) nn I).3 x'22) (y.1))))))))))))))))))))))))))))))))))))))))))))))
 (((Y87.j y:Nat) = (nn))/\
 (State.Le (y.1) (y.1))))):=by kernel_rfl
theorem vc87l0 (B:Nat) (w0:World) (G:Nat -> AV) (M:Nat) (I:Y87 -> Prop) (y:Y87):(wpX [] (EV B w0 G) (H87 (EV B w0 G)) (fun _ _ _ _ => False) (A87 87) N87l (bodyOf (subPart [] (fnPart Tryz.prog [15] 87 1) 0)) ((ls87l M .nilslice 0 I).post y) (frm [(0,.v (.ptr M 0)),(80,.v .nilslice),(81,.v (.int .i64 0)),(82,.v (.int .i64 (y.j:Int)))] []) y.σ) =
 ((((Y87.j y:Nat) = 0)/\
 (State.Le (y.1) (y.1)))):=by kernel_rfl
def T87l (M:Nat) (nv:AV) (nn:Nat) (I0:Y87 -> Prop) (P:Y87 -> Prop):LHand:=fun _ Q a σ => ∃ (y:Y87),I0 y /\ atF a (F87l M nv nn y) [] (y.σ.Le σ) /\ ∀ y':Y87,P y' -> Q (.exit 4) (frm [] []) y'.σ
def cs87 (P:Y87 -> Prop):CS Y87 where
 I:=P
 F _:=[]
 FL _:=[]
 S y:=y.σ
theorem vc87tn (B:Nat) (w0:World) (G:Nat -> AV) (L:ML) (I0 P:Y87 -> Prop) (z:Z87):(wpX [] (EV B w0 G) (H87 (EV B w0 G)) (T87l L.M .nilslice 0 I0 P) (A87 87) noHint (fnPart Tryz.prog [15] 87 1) ((cs87 P).post) (frm [(0,.v (.ptr L.M 0)),(4,.v (.rslice z.tid 0 z.td.length)),(5,.v .nilslice)] []) z.σ) =
 ((∃ c0:MH,(∃ v1:AV,(∃ l2:List Nat,(([AV.nilslice] = [(v1)])/\
 (((At c0 (Z87.σ z))/\
 ((SlAt c0 MRole.now 3 1 v1 (intsV l2))/\
 (((List.length (l2)):Nat) <= 1000000)))/\
 (∀ c'3:MH,(∀ σ'4:State,(((At c'3 σ'4)/\
 ((SlAt c'3 MRole.now 3 1 v1 (intsV (sortN l2)))/\
 (∀ q5:MRole,(((q5 ∈ [MRole.now]) -> False) -> ((c'3 q5) = (c0 q5)))))) -> (∃ y5:Y87,((I0 (y5))/\
 (((Rf (TV.v (AV.ptr (ML.M L) 0)))/\
 ((Rf (TV.v AV.nilslice))/\
 ((Rf (TV.v (AV.int .i64 0)))/\
 (((TV.v (AV.int .i64 0)) = (TV.v (AV.int .i64 ((Y87.j y5:Nat):Int))))/\
 (State.Le (y5.1) σ'4)))))/\
 (∀ y'6:Y87,((P (y'6)) -> (∃ y7:Y87,((P (y7))/\
 (State.Le ((cs87 P).4 y7) (y'6.1)))))))))))))))))):=by kernel_rfl
theorem vc87tr (B:Nat) (w0:World) (G:Nat -> AV) (L:ML) (I0 P:Y87 -> Prop) (nid nn:Nat) (z:Z87):(wpX [] (EV B w0 G) (H87 (EV B w0 G)) (T87l L.M (.rslice nid 0 nn) nn I0 P) (A87 87) noHint (fnPart Tryz.prog [15] 87 1) ((cs87 P).post) (frm [(0,.v (.ptr L.M 0)),(4,.v (.rslice z.tid 0 z.td.length)),(5,.v (.rslice nid 0 nn))] []) z.σ) =
 ((∃ c0:MH,(∃ v1:AV,(∃ l2:List Nat,(([(AV.rslice (nid) 0 (nn))] = [(v1)])/\
 (((At c0 (Z87.σ z))/\
 ((SlAt c0 MRole.now 3 1 v1 (intsV l2))/\
 (((List.length (l2)):Nat) <= 1000000)))/\
 (∀ c'3:MH,(∀ σ'4:State,(((At c'3 σ'4)/\
 ((SlAt c'3 MRole.now 3 1 v1 (intsV (sortN l2)))/\
 (∀ q5:MRole,(((q5 ∈ [MRole.now]) -> False) -> ((c'3 q5) = (c0 q5)))))) -> (∃ y5:Y87,((I0 (y5))/\
 (((Rf (TV.v (AV.ptr (ML.M L) 0)))/\
 ((Rf (TV.v (AV.rslice (nid) 0 (nn))))/\
 ((Rf (TV.v (AV.int .i64 ((nn:Nat):Int))))/\
 (((TV.v (AV.int .i64 0)) = (TV.v (AV.int .i64 ((Y87.j y5:Nat):Int))))/\
 (State.Le (y5.1) σ'4)))))/\
 (∀ y'6:Y87,((P (y'6)) -> (∃ y7:Y87,((P (y7))/\
 (State.Le ((cs87 P).4 y7) (y'6.1)))))))))))))))))):=by kernel_rfl
def T87o (L:ML) (I0:Z87 -> Prop) (P:Z87 -> Prop):LHand:=fun _ Q a σ => ∃ (z:Z87),I0 z /\ atF a (F87o L z) [] (z.σ.Le σ) /\ ∀ z':Z87,P z' -> Q (.exit 0) (frm (F87o L z') []) z'.σ
def T87t (L:ML) (P:Z87 -> Prop) (R:Y87 -> Prop):LHand:=fun _ Q a σ => ∃ (z:Z87),P z /\ atF a (F87o L z) [] (z.σ.Le σ) /\ ∀ y:Y87,R y -> Q .normal (frm [] []) y.σ
theorem vc87 (B:Nat) (w0:World) (G:Nat -> AV) (L:ML) (I0 P:Z87 -> Prop) (R:Y87 -> Prop) (σ:State) (id:Nat) (Q:AV -> State -> Prop):(bodyX [15] (EV B w0 G) (H87 (EV B w0 G)) (handL [(2,T87o L I0 P),(15,T87t L P R)]) A87 noHint 87 [.ptr L.M 0,.ptr id 0] σ Q) =
 ((∃ z0:Z87,((I0 (z0))/\
 (((Rf (TV.v (AV.ptr (ML.M L) 0)))/\
 (((TV.v (AV.rslice (State.next σ) 0 1)) = (TV.v (AV.rslice (Z87.tid z0) 0 (List.length (Z87.td z0)))))/\
 (((TV.v AV.nilslice) = (TV.v (Z87.nv z0)))/\
 (State.Le (z0.1) (State.new σ (AObj.cells [(AV.ptr (id) 0)] 155 1 false))))))/\
 (∀ z'1:Z87,((P (z'1)) -> (∃ z2:Z87,((P (z2))/\
 (((Rf (TV.v (AV.ptr (ML.M L) 0)))/\
 (((TV.v (AV.rslice (Z87.tid z'1) 0 (List.length (Z87.td z'1)))) = (TV.v (AV.rslice (Z87.tid z2) 0 (List.length (Z87.td z2)))))/\
 (((TV.v (Z87.nv z'1)) = (TV.v (Z87.nv z2)))/\
 (State.Le (z2.1) (z'1.1)))))/\
 (∀ y3:Y87,((R (y3)) -> (Q (AV.tuple []) (y3.1))))))))))))):=by kernel_rfl
end Go.V
/- Inputs that become free: the inner loop. -/
set_option linter.unusedSimpArgs false
set_option linter.unusedSectionVars false
namespace Go.V
open Go Go.Proofs

def freeOne (p:PM) (i:Nat):PM:=p.setI i { p.at i with fr:=true }
def freeAll (p:PM) (l:List Nat):PM:=l.foldl freeOne p
def idOf (L:ML) (k:Nat):Nat:=L.ids.getD k 0
theorem idOf_eq {L:ML} {k:Nat} (h:k < L.ids.length):idOf L k = L.ids[k]:=by unfold idOf; rw [List.getD,List.getElem?_eq_getElem h]; rfl
theorem freeOne_len (p:PM) (i:Nat):(freeOne p i).I.length = p.I.length:=List.length_set
theorem freeAll_len (l:List Nat):∀ p:PM,(freeAll p l).I.length = p.I.length:=by
 induction l with
 | nil => exact fun p => rfl
 | cons i l ih => exact fun p => (ih _).trans (freeOne_len p i)
theorem freeAll_snoc (p:PM) (l:List Nat) (i:Nat):freeAll p (l ++ [i]) = freeOne (freeAll p l) i:=by unfold freeAll; rw [List.foldl_append]; rfl

structure ZI (L:ML) (z:Z87):Prop where
 at_:At z.c z.σ
 rep:Rep z.c L z.p
 todo:∃ cs g,z.c .todo = some (z.tid,.cells cs 155 1 g) /\ cs.take z.td.length = ptrsV (z.td.map (idOf L)) /\ z.td.length <= cs.length
 now:SlAt z.c .now 3 1 z.nv (intsV z.now)
 tds:∀ k ∈ z.td,k < L.ids.length

structure ZIn (L:ML) (z0:Z87) (k:Nat) (bh:List Nat) (z:Z87):Prop where
 zi:ZI L z
 j:z.j <= bh.length
 p:z.p = freeAll z0.p (bh.take z.j)
 td:z.td = z0.td ++ bh.take z.j
 now:z.now = z0.now ++ bh.take z.j
 beh:z.c (.beh k) = z0.c (.beh k)
 xs:Frame' z0.c z.c

theorem ZI.one {L:ML} {z:Z87} (h:ZI L z) {i:Nat} (hi:i < L.ids.length) {bv qv:AV} {qf:Nat}
  (hob:z.c (.inp i) = some (L.ids[i],.cells [.bool (z.p.at i).op,.bool (z.p.at i).fr,bv,qv,.int .i64 (qf:Int)] 159 5 false)) (hb:SlAt z.c (.beh i) 3 1 bv (intsV (z.p.at i).beh)) (hq:QuAt z.c (.itm i) 37 4 qv qf (z.p.at i).q.length (flat (tcellL (z.p.at i).q)))
  {cs:List AV} {σ':State} {tid:Nat} {nv:AV} {c':MH} (hA:At c' σ')
  (h1:c' (.inp i) = some (L.ids[i],.cells [.bool (z.p.at i).op,.bool true,bv,qv,.int .i64 (qf:Int)] 159 5 false)) (h2:c' .todo = some (tid,.cells (cs.take z.td.length ++ [AV.ptr L.ids[i] 0]) 155 1 true))
  (h3:SlAt c' .now 3 1 nv (intsV (z.now ++ [i]))) (h4:∀ q,q ≠ .inp i -> q ≠ .todo -> q ≠ .now -> c' q = z.c q) (hcs:cs.take z.td.length = ptrsV (z.td.map (idOf L))) :
  ZI L ⟨σ',c',freeOne z.p i,z.td ++ [i],z.now ++ [i],tid,nv,z.j + 1⟩ where
 at_:=hA
 rep:=h.rep.upd ((h4 _ (by simp) (by simp) (by simp)).trans h.rep.m) rfl rfl (h4 _ (by simp) (by simp) (by simp)) (h.rep.turn.congr (h4 _ (by simp) (by simp) (by simp))) (freeOne_len _ _) fun j hj => by
  unfold freeOne
  rw [PM.setI_at (by rw [<-h.rep.len]; exact hi)]
  by_cases hji:j = i
  ·subst hji
   rw [if_pos rfl]
   exact ⟨bv,qv,qf,h1,hb.congr (h4 _ (by simp) (by simp) (by simp)),hq.congr (h4 _ (by simp) (by simp) (by simp))⟩
  ·rw [if_neg hji]
   exact (h.rep.inp j hj).congr (h4 _ (by simpa using hji) (by simp) (by simp)) (h4 _ (by simp) (by simp) (by simp)) (h4 _ (by simp) (by simp) (by simp))
 todo:=by
  refine ⟨_,true,h2,?_,?_⟩
  ·have hl:(cs.take z.td.length).length = z.td.length:=by rw [hcs,ptrsV_len,List.length_map]
   rw [List.take_of_length_le (by rw [List.length_append,hl]; simp),hcs,List.map_append,ptrsV_append]
   show _ = ptrsV (z.td.map (idOf L)) ++ [AV.ptr (idOf L i) 0]
   rw [idOf_eq hi]
  ·have hl:(cs.take z.td.length).length = z.td.length:=by rw [hcs,ptrsV_len,List.length_map]
   show (z.td ++ [i]).length <= _
   rw [List.length_append,List.length_append,hl]; exact Nat.le_refl _
 now:=h3
 tds:=fun k hk => by
  rcases List.mem_append.1 hk with hk | hk
  ·exact h.tds k hk
  ·simp at hk; subst hk; exact hi

section
variable {B:Nat} {w0:World} {G:Nat -> AV}
variable (hG:∀ i,NoId (G i))

include hG in
theorem H87_ok:HOk1 (EV B w0 G) (H87 (EV B w0 G)):=hnd_ok (EV_mixed B w0 G) (contracts_cons c88_ok (contracts_cons c89_ok (contracts_cons c125_ok contracts_nil)))

include hG in
theorem loop87i {L:ML} {z1:Z87} {k id:Nat} {bv:AV} {bh:List Nat} (hz:ZI L z1) (hj:z1.j = 0) (hb:SlAt z1.c (.beh k) 3 1 bv (intsV bh)) (hbh:∀ i ∈ bh,i < L.ids.length)
  (hn1:z1.td.length + bh.length <= 1000000) (hn2:z1.now.length + bh.length <= 1000000) (Q:Post) (a:AAct) (σ:State) (ha:atF a (F87i L id bv bh.length z1) [] (z1.σ.Le σ)) (hQ:∀ z',ZIn L z1 k bh z' -> z'.j = bh.length -> Q (.exit 2) (frm (F87i L id bv bh.length z') []) z'.σ) :
  AWp (EV B w0 G) none (fnTmps Tryz.prog 87) (.loop (bodyOf (subPart [] (fnPart Tryz.prog [] 87 0) 0))) Q a σ:=by
 refine awp_loopS (ls87i L id bv bh.length (ZIn L z1 k bh)) (x0:=z1) (fun z hI => ?_) (fun z hI e a σ hne k => ?_) ⟨hz,by omega,by rw [hj]; rfl,by rw [hj]; simp,by rw [hj]; simp,rfl,.refl _⟩ ha
 ·have hI:ZIn L z1 k bh z:=hI
  rcases hb.inv with ⟨rfl,hnil⟩ | ⟨bid,nb,bg,rfl,hbs,hbl⟩
  ·-- there are none
   have hb0:bh = []:=List.map_eq_nil_iff.1 hnil
   subst hb0
   have hj0:z.j = 0:=by have:=hI.j; simpa using this
   refine wpX_ok (H87_ok hG) (EV_mixed B w0 G) (L:=fun _ _ _ _ => False) _ _ _ _ (fun p hp hc Q a σ k => k.elim) (by kernel_rfl) ((vc87i0 B w0 G L id (ZIn L z1 k []) z).mpr ?_)
   first
    | exact ⟨hj0,rfl,rfl,rfl,rfl,rfl,rfl,rfl,.refl _⟩
    | exact bcase_of (fun h => by have h:=of_decide_eq_true h; rw [hj0] at h; omega) (fun h => ⟨hj0,rfl,rfl,rfl,rfl,rfl,rfl,rfl,.refl _⟩)
  rw [intsV_len,Nat.mul_one] at hbl
  subst hbl
  have hbs':z.c (.beh k) = some (bid,.cells (intsV bh) 3 1 bg):=hI.beh.trans hbs
  have hzi:=hI.zi
  have hA:=hzi.at_
  have hR:=hzi.rep
  have hM:=hR.obM hA
  have hbo:=hA.obj hbs'
  obtain ⟨cs,tg,hto,hcs,hcl⟩:=hzi.todo
  have hto':=hA.obj hto
  have hjl:=hI.j
  have hlen:=hR.len
  have htl:z.td.length <= 1000000:=by rw [hI.td,List.length_append,List.length_take]; omega
  have hnl:z.now.length <= 1000000:=by rw [hI.now,List.length_append,List.length_take]; omega
  by_cases hlt:z.j < bh.length
  ·-- the next input
   have hi:bh[z.j] < L.ids.length:=hbh _ (List.getElem_mem hlt)
   obtain ⟨bv',qv,qf,hob,hb',hq'⟩:=(hR.inp _ hi).ex
   have hobj:=hA.obj hob
   have hget1:List.getD (intsV bh) z.j .undef = .int .i64 ((bh[z.j]:Nat):Int):=intsV_get hlt
   have hget2:List.getD (ptrsV L.ids) bh[z.j] .undef = .ptr L.ids[bh[z.j]] 0:=ptrsV_get hi
   rcases hR.ins.inv with ⟨_,hnil⟩ | ⟨iid,im,ig,ei,his,hil⟩
   ·exact absurd (congrArg List.length hnil) (by rw [ptrsV_len]; show ¬ L.ids.length = 0; omega)
   rw [ptrsV_len,Nat.mul_one] at hil
   subst hil
   rw [ei] at hM
   have hio:=hA.obj his
   have wj:IntKind.wrap .i64 ((z.j:Int) + 1) = ((z.j + 1:Nat):Int):=by rw [wr_small (by omega) (by omega)]; omega
   have htid:=hA.lt hto
   have hiid:=hA.lt hob
   have n1:z.tid ≠ L.ids[bh[z.j]]:=hA.ne hto hob (by simp)
   have n2:z.tid ≠ z.σ.next:=by omega
   have hlast:∀ z':Z87,ZI L z' -> z'.p = freeOne z.p bh[z.j] -> z'.td = z.td ++ [bh[z.j]] -> z'.now = z.now ++ [bh[z.j]] -> (∀ q,q ≠ .inp bh[z.j] -> q ≠ .todo -> q ≠ .now -> z'.c q = z.c q) -> z'.j = z.j + 1 -> ZIn L z1 k bh z':=fun z' a1 a2 a3 a4 a5 a7 => by
    have et:bh.take (z.j + 1) = bh.take z.j ++ [bh[z.j]]:=by rw [List.take_add_one,List.getElem?_eq_getElem hlt]; rfl
    exact ⟨a1,by omega,by rw [a7,et,freeAll_snoc,<-hI.p]; exact a2,by rw [a7,et,<-List.append_assoc,<-hI.td]; exact a3,by rw [a7,et,<-List.append_assoc,<-hI.now]; exact a4,(a5 _ (by simp) (by simp) (by simp)).trans hI.beh,hI.xs.trans fun x => a5 _ (by simp) (by simp) (by simp)⟩
   rcases hzi.now.inv with ⟨env,hnn⟩ | ⟨nid,nn,ng,env,hns,hnnl⟩
   ·have hn0:z.now = []:=List.map_eq_nil_iff.1 hnn
    have hfr:(frm ((ls87i L id (.rslice bid 0 bh.length) bh.length (ZIn L z1 k bh)).F z) []) = frm [(0,.v (.ptr L.M 0)),(4,.v (.rslice z.tid 0 z.td.length)),(5,.v .nilslice),(6,.v (.ptr id 0)),(49,.v (.rslice bid 0 bh.length)),(50,.v (.int .i64 (bh.length:Int))),(51,.v (.int .i64 (z.j:Int)))] []:=by
     show frm (F87i L id (.rslice bid 0 bh.length) bh.length z) [] = _
     unfold F87i; rw [env]
    show AWp _ _ _ _ _ (frm ((ls87i L id (.rslice bid 0 bh.length) bh.length (ZIn L z1 k bh)).F z) []) z.σ
    rw [hfr]
    refine wpX_ok (H87_ok hG) (EV_mixed B w0 G) (L:=fun _ _ _ _ => False) _ _ _ _ (fun p hp hc Q a σ k => k.elim) (by kernel_rfl) ((vc87in B w0 G L id bid bh.length (ZIn L z1 k bh) z).mpr ?_)
    simp only [ex_OM,ex_OE,ex_RS,ex_OI,hM,hbo,hto',hobj,hio,hget1,hget2,wj,n1,n2,objs_set,objs_new,next_set,next_new,if_true,if_false,AObj.cells.injEq,List.cons.injEq,AV.int.injEq,AV.ptr.injEq,AV.bool.injEq,AV.rslice.injEq,nat_inj,Nat.zero_add,Nat.mul_one,Int.toNat_natCast,intsV_len,ptrsV_len,eq_self,true_and,and_true,exists_eq_left',exists_eq_left,exists_and_left,exists_and_right,and_assoc,exists_eq',exists_const,List.getD_cons_zero,List.getD_cons_succ,Nat.reduceLT,Nat.reduceLeDiff]
    refine bcase_of (fun _ => ?_) (fun h => absurd hlt (by have:=of_decide_eq_false h; omega))
    have h1:=((hA.set hob (.cells [.bool (z.p.at bh[z.j]).op,.bool true,bv',qv,.int .i64 (qf:Int)] 159 5 false)).new .now (.cells [AV.int .i64 ((bh[z.j]:Nat):Int)] 3 1 true)).grow ((hup_ne (by simp)).trans ((hup_ne (by simp)).trans hto)) (.cells (List.take z.td.length cs ++ [AV.ptr L.ids[bh[z.j]] 0]) 155 1 true)
    have hone:=hzi.one hi hob hb' hq' (tid:=z.σ.next + 1) (nv:=.rslice z.σ.next 0 1) h1 ((hup_ne (by simp)).trans ((hup_ne (by simp)).trans hup_self)) hup_self (by
     rw [hn0]
     exact .row z.σ.next 1 true _ ((hup_ne (by simp)).trans hup_self) rfl) (fun q q1 q2 q3 => (hup_ne q2).trans ((hup_ne q3).trans (hup_ne q1))) hcs
    refine ⟨by omega,by omega,hlt,by omega,by omega,hi,by omega,by omega,hcl,_,hlast _ hone rfl rfl rfl (fun q q1 q2 q3 => (hup_ne q2).trans ((hup_ne q3).trans (hup_ne q1))) rfl,show bh.length - (z.j + 1) < bh.length - z.j by omega,?_,rfl,rfl,.refl _⟩
    show TV.v (AV.rslice (z.σ.next + 1) 0 (z.td.length + 1)) = TV.v (AV.rslice (z.σ.next + 1) 0 (z.td ++ [bh[z.j]]).length)
    rw [List.length_append]; rfl
   ·rw [intsV_len,Nat.mul_one] at hnnl
    subst hnnl
    have hno:=hA.obj hns
    have n3:nid ≠ L.ids[bh[z.j]]:=hA.ne hns hob (by simp)
    have n4:z.tid ≠ nid:=hA.ne hto hns (by simp)
    have htk:List.take z.now.length (intsV z.now) = intsV z.now:=List.take_of_length_le (by rw [intsV_len]; exact Nat.le_refl _)
    have hfr:(frm ((ls87i L id (.rslice bid 0 bh.length) bh.length (ZIn L z1 k bh)).F z) []) = frm [(0,.v (.ptr L.M 0)),(4,.v (.rslice z.tid 0 z.td.length)),(5,.v (.rslice nid 0 z.now.length)),(6,.v (.ptr id 0)),(49,.v (.rslice bid 0 bh.length)),(50,.v (.int .i64 (bh.length:Int))),(51,.v (.int .i64 (z.j:Int)))] []:=by
     show frm (F87i L id (.rslice bid 0 bh.length) bh.length z) [] = _
     unfold F87i; rw [env]
    show AWp _ _ _ _ _ (frm ((ls87i L id (.rslice bid 0 bh.length) bh.length (ZIn L z1 k bh)).F z) []) z.σ
    rw [hfr]
    refine wpX_ok (H87_ok hG) (EV_mixed B w0 G) (L:=fun _ _ _ _ => False) _ _ _ _ (fun p hp hc Q a σ k => k.elim) (by kernel_rfl) ((vc87ir B w0 G L id bid bh.length nid z.now.length (ZIn L z1 k bh) z).mpr ?_)
    simp only [hno,n3,n4,htk,ex_OM,ex_OE,ex_RS,ex_OI,hM,hbo,hto',hobj,hio,hget1,hget2,wj,n1,n2,objs_set,objs_new,next_set,next_new,if_true,if_false,AObj.cells.injEq,List.cons.injEq,AV.int.injEq,AV.ptr.injEq,AV.bool.injEq,AV.rslice.injEq,nat_inj,Nat.zero_add,Nat.mul_one,Int.toNat_natCast,intsV_len,ptrsV_len,eq_self,true_and,and_true,exists_eq_left',exists_eq_left,exists_and_left,exists_and_right,and_assoc,exists_eq',exists_const,List.getD_cons_zero,List.getD_cons_succ,Nat.reduceLT,Nat.reduceLeDiff]
    refine bcase_of (fun _ => ?_) (fun h => absurd hlt (by have:=of_decide_eq_false h; omega))
    have h1:=((hA.set hob (.cells [.bool (z.p.at bh[z.j]).op,.bool true,bv',qv,.int .i64 (qf:Int)] 159 5 false)).grow ((hup_ne (by simp)).trans hns) (.cells (intsV z.now ++ [AV.int .i64 ((bh[z.j]:Nat):Int)]) 3 1 true)).grow ((hup_ne (by simp)).trans ((hup_ne (by simp)).trans hto)) (.cells (List.take z.td.length cs ++ [AV.ptr L.ids[bh[z.j]] 0]) 155 1 true)
    have hone:=hzi.one hi hob hb' hq' (tid:=z.σ.next + 1) (nv:=.rslice z.σ.next 0 (z.now.length + 1)) h1 ((hup_ne (by simp)).trans ((hup_ne (by simp)).trans hup_self)) hup_self (by
     rw [intsV_append]
     exact .row z.σ.next (z.now.length + 1) true _ ((hup_ne (by simp)).trans hup_self) (by rw [List.length_append,intsV_len,intsV_len]; show z.now.length + 1 = (z.now.length + 1) * 1; omega)) (fun q q1 q2 q3 => (hup_ne q2).trans ((hup_ne q3).trans (hup_ne q1))) hcs
    refine ⟨by omega,by omega,hlt,by omega,by omega,hi,by omega,by omega,by omega,by omega,by omega,hcl,_,hlast _ hone rfl rfl rfl (fun q q1 q2 q3 => (hup_ne q2).trans ((hup_ne q3).trans (hup_ne q1))) rfl,show bh.length - (z.j + 1) < bh.length - z.j by omega,?_,rfl,rfl,.refl _⟩
    show TV.v (AV.rslice (z.σ.next + 1) 0 (z.td.length + 1)) = TV.v (AV.rslice (z.σ.next + 1) 0 (z.td ++ [bh[z.j]]).length)
    rw [List.length_append]; rfl
  ·have hje:z.j = bh.length:=by omega
   rcases hzi.now.inv with ⟨env,hnn⟩ | ⟨nid,nn,ng,env,hns,hnnl⟩
   ·have hfr:(frm ((ls87i L id (.rslice bid 0 bh.length) bh.length (ZIn L z1 k bh)).F z) []) = frm [(0,.v (.ptr L.M 0)),(4,.v (.rslice z.tid 0 z.td.length)),(5,.v .nilslice),(6,.v (.ptr id 0)),(49,.v (.rslice bid 0 bh.length)),(50,.v (.int .i64 (bh.length:Int))),(51,.v (.int .i64 (z.j:Int)))] []:=by
     show frm (F87i L id (.rslice bid 0 bh.length) bh.length z) [] = _
     unfold F87i; rw [env]
    show AWp _ _ _ _ _ (frm ((ls87i L id (.rslice bid 0 bh.length) bh.length (ZIn L z1 k bh)).F z) []) z.σ
    rw [hfr]
    exact wpX_ok (H87_ok hG) (EV_mixed B w0 G) (L:=fun _ _ _ _ => False) _ _ _ _ (fun p hp hc Q a σ k => k.elim) (by kernel_rfl) ((vc87in B w0 G L id bid bh.length (ZIn L z1 k bh) z).mpr (bcase_of (fun h => by have h:=of_decide_eq_true h; omega) (fun _ => ⟨hje,rfl,rfl,by rw [env],rfl,rfl,rfl,rfl,.refl _⟩)))
   ·have hfr:(frm ((ls87i L id (.rslice bid 0 bh.length) bh.length (ZIn L z1 k bh)).F z) []) = frm [(0,.v (.ptr L.M 0)),(4,.v (.rslice z.tid 0 z.td.length)),(5,.v (.rslice nid 0 nn)),(6,.v (.ptr id 0)),(49,.v (.rslice bid 0 bh.length)),(50,.v (.int .i64 (bh.length:Int))),(51,.v (.int .i64 (z.j:Int)))] []:=by
     show frm (F87i L id (.rslice bid 0 bh.length) bh.length z) [] = _
     unfold F87i; rw [env]
    show AWp _ _ _ _ _ (frm ((ls87i L id (.rslice bid 0 bh.length) bh.length (ZIn L z1 k bh)).F z) []) z.σ
    rw [hfr]
    exact wpX_ok (H87_ok hG) (EV_mixed B w0 G) (L:=fun _ _ _ _ => False) _ _ _ _ (fun p hp hc Q a σ k => k.elim) (by kernel_rfl) ((vc87ir B w0 G L id bid bh.length nid nn (ZIn L z1 k bh) z).mpr (bcase_of (fun h => by have h:=of_decide_eq_true h; omega) (fun _ => ⟨hje,rfl,rfl,by rw [env],rfl,rfl,rfl,rfl,.refl _⟩)))
 ·cases e with
  | exit id =>
   match id,k with
   | 2,k => exact ⟨_,_,(atF_ok k.2).1,(atF_ok k.2).2,hQ z hI k.1⟩
  | normal => exact absurd rfl hne
  | _ => exact k.elim
end
end Go.V
/- Inputs that become free: the outer loop. -/
namespace Go.V
open Go Go.Proofs

theorem freeOne_at {p:PM} {i j:Nat} (hi:i < p.I.length):(freeOne p i).at j = { p.at j with fr:=(p.at j).fr || decide (j = i) }:=by
 unfold freeOne
 rw [PM.setI_at hi]
 by_cases h:j = i
 ·subst h; simp
 ·simp [h]
theorem freeAll_at {j:Nat}:∀ (l:List Nat) (p:PM),(∀ i ∈ l,i < p.I.length) -> (freeAll p l).at j = { p.at j with fr:=(p.at j).fr || decide (j ∈ l) }
 | [],p,_ => by simp [freeAll]
 | i :: l,p,h => by
  show (freeAll (freeOne p i) l).at j = _
  rw [freeAll_at l _ (fun x hx => by rw [freeOne_len]; exact h x (List.mem_cons_of_mem _ hx)),freeOne_at (h i (List.mem_cons_self ..))]
  simp [Bool.or_assoc]

def act (p:PM) (k:Nat):Prop:=(p.at k).fr = true /\ (p.at k).op = false /\ (p.at k).q = []
def fire (p:PM) (k:Nat):PM:=(freeAll p (p.at k).beh).setI k { (freeAll p (p.at k).beh).at k with beh:=[] }
inductive FReach (p0:PM) (td0 now0:List Nat):PM -> List Nat -> List Nat -> Prop where
 | refl:FReach p0 td0 now0 p0 td0 now0
 | skip {p:PM} {td now:List Nat} {k:Nat} (h:FReach p0 td0 now0 p (td ++ [k]) now) (ha:¬ act p k):FReach p0 td0 now0 p td now
 | go {p:PM} {td now:List Nat} {k:Nat} (h:FReach p0 td0 now0 p (td ++ [k]) now) (ha:act p k):FReach p0 td0 now0 (fire p k) (td ++ (p.at k).beh) (now ++ (p.at k).beh)

def PM.T (p:PM):Nat:=(p.I.map fun x => x.beh.length).sum
structure PM.Ok (p:PM):Prop where
 beh:∀ k i,i ∈ (p.at k).beh -> i < p.I.length
 q:∀ k,(p.at k).q.length <= 100000

theorem T_set {l:List PI} {k:Nat} {x:PI} (hk:k < l.length):((l.set k x).map fun x => x.beh.length).sum + (l.getD k PI.no).beh.length = (l.map fun x => x.beh.length).sum + x.beh.length:=by
 induction l generalizing k with
 | nil => simp at hk
 | cons y l ih =>
  cases k with
  | zero => simp [List.getD]; omega
  | succ k =>
   have:=ih (k:=k) (by simpa using hk)
   simp [List.getD] at this ⊢
   omega
theorem T_setI {p:PM} {k:Nat} {x:PI} (hk:k < p.I.length):(p.setI k x).T + (p.at k).beh.length = p.T + x.beh.length:=T_set hk
theorem T_freeOne {p:PM} {i:Nat} (hi:i < p.I.length):(freeOne p i).T = p.T:=by
 have:=T_setI (x:={ p.at i with fr:=true }) hi
 exact Nat.add_right_cancel this
theorem T_freeAll:∀ (l:List Nat) (p:PM),(∀ i ∈ l,i < p.I.length) -> (freeAll p l).T = p.T
 | [],p,_ => rfl
 | i :: l,p,h => by
  show (freeAll (freeOne p i) l).T = _
  rw [T_freeAll l _ (fun x hx => by rw [freeOne_len]; exact h x (List.mem_cons_of_mem _ hx)),T_freeOne (h i (List.mem_cons_self ..))]
theorem at_beh_nil {p:PM} {k:Nat} (h:p.I.length <= k):(p.at k).beh = []:=by
 unfold PM.at; rw [List.getD,List.getElem?_eq_none h]; rfl
theorem fire_len (p:PM) (k:Nat):(fire p k).I.length = p.I.length:=List.length_set.trans (freeAll_len _ _)
theorem fire_at {p:PM} {k j:Nat} (hk:k < p.I.length) (h:p.Ok):(fire p k).at j = { p.at j with fr:=(p.at j).fr || decide (j ∈ (p.at k).beh),beh:=if j = k then [] else (p.at j).beh }:=by
 unfold fire
 rw [PM.setI_at (by rw [freeAll_len]; exact hk)]
 by_cases hj:j = k
 ·subst hj
  rw [if_pos rfl,if_pos rfl,freeAll_at _ _ (fun i hi => h.beh _ i hi)]
 ·rw [if_neg hj,if_neg hj,freeAll_at _ _ (fun i hi => h.beh _ i hi)]
theorem fire_T {p:PM} {k:Nat} (hk:k < p.I.length) (h:p.Ok):(fire p k).T + (p.at k).beh.length = p.T:=by
 have h1:=T_setI (p:=freeAll p (p.at k).beh) (k:=k) (x:={ (freeAll p (p.at k).beh).at k with beh:=[] }) (by rw [freeAll_len]; exact hk)
 have h2:((freeAll p (p.at k).beh).at k).beh = (p.at k).beh:=by rw [freeAll_at _ _ (fun i hi => h.beh _ i hi)]
 rw [h2,T_freeAll _ _ (fun i hi => h.beh _ i hi)] at h1
 exact h1
theorem fire_ok {p:PM} {k:Nat} (hk:k < p.I.length) (h:p.Ok):(fire p k).Ok where
 beh j i hi:=by
  rw [fire_len]
  rw [fire_at hk h] at hi
  by_cases hj:j = k
  ·rw [if_pos hj] at hi; cases hi
  ·rw [if_neg hj] at hi; exact h.beh j i hi
 q j:=by rw [fire_at hk h]; exact h.q j

structure ZO (L:ML) (c0:MH) (p0:PM) (k0:Nat) (N:Nat) (z:Z87):Prop where
 zi:ZI L z
 reach:FReach p0 [k0] [] z.p z.td z.now
 ok:z.p.Ok
 b1:z.td.length + z.p.T <= N
 b2:z.now.length + z.p.T <= N
 xs:Frame' c0 z.c

section
variable {B:Nat} {w0:World} {G:Nat -> AV}
variable (hG:∀ i,NoId (G i))
include hG

theorem loop87o {L:ML} {c0:MH} {p0:PM} {k0 N:Nat} (hN:N <= 100000) {z0:Z87} (h0:ZO L c0 p0 k0 N z0) (Q:Post) (a:AAct) (σ:State) (ha:atF a (F87o L z0) [] (z0.σ.Le σ))
  (hQ:∀ z',ZO L c0 p0 k0 N z' -> z'.td = [] -> Q (.exit 0) (frm (F87o L z') []) z'.σ):AWp (EV B w0 G) none (fnTmps Tryz.prog 87) (.loop (bodyOf (fnPart Tryz.prog [] 87 0))) Q a σ:=by
 refine awp_loopS (ls87o L (ZO L c0 p0 k0 N) (fun z => z.td.length + z.p.T)) (x0:=z0) (fun z hI => ?_) (fun z hI e a σ hne k => ?_) h0 ha
 ·have hI:ZO L c0 p0 k0 N z:=hI
  show AWp _ _ _ _ _ (frm (F87o L z) []) z.σ
  have hzi:=hI.zi
  have hA:=hzi.at_
  have hR:=hzi.rep
  have hlen:=hR.len
  rcases List.eq_nil_or_concat z.td with htd | ⟨td',k,htd⟩
  ·exact wpX_ok (H87_ok hG) (EV_mixed B w0 G) (L:=T87i L (fun _ _ _ _ => False) (fun _ _ _ _ _ => False)) _ _ _ _ (fun p hp hc Q a σ k => by obtain ⟨_,_,_,_,h,_⟩:=k; exact h.elim) (by kernel_rfl)
    ((vc87on B w0 G L _ _ (ZO L c0 p0 k0 N) (fun z => z.td.length + z.p.T) z).mpr (bcase_of (fun h => by have h:=of_decide_eq_true h; rw [htd] at h; simp at h) (fun _ => ⟨by rw [htd]; rfl,rfl,rfl,rfl,.refl _⟩)))
  ·have hkm:k ∈ z.td:=by rw [htd]; simp
   have hk:k < L.ids.length:=hzi.tds k hkm
   obtain ⟨cs,tg,hto,hcs,hcl⟩:=hzi.todo
   have hto':=hA.obj hto
   obtain ⟨bv,qv,qf,hob,hb,hq⟩:=(hR.inp k hk).ex
   have hobj:=hA.obj hob
   have htl:z.td.length = td'.length + 1:=by rw [htd]; simp
   have wl:IntKind.wrap .i64 ((z.td.length:Int) - 1) = (td'.length:Int):=by
    have:=hI.b1
    rw [wr_small (by omega) (by omega)]; omega
   have hget:List.getD cs td'.length .undef = .ptr L.ids[k] 0:=by
    have h1:(cs.take z.td.length)[td'.length]? = some (.ptr L.ids[k] 0):=by
     rw [hcs,htd]
     unfold ptrsV
     rw [List.concat_eq_append,List.map_append,List.map_append,List.getElem?_append_right (by simp)]
     simp [idOf_eq hk]
    rw [List.getElem?_take_of_lt (by omega)] at h1
    rw [List.getD,h1]; rfl
   have htd2:z.td = td' ++ [k]:=by rw [htd,List.concat_eq_append]
   have hb1:=hI.b1
   have hb2:=hI.b2
   have hkp:k < z.p.I.length:=by omega
   have hTk:(z.p.at k).beh.length <= z.p.T:=by have:=fire_T hkp hI.ok; omega
   have hcs':cs.take td'.length = ptrsV (td'.map (idOf L)):=by
    have h1:(cs.take z.td.length).take td'.length = (ptrsV (z.td.map (idOf L))).take td'.length:=by rw [hcs]
    rw [List.take_take,Nat.min_eq_left (by omega),htd2,List.map_append,ptrsV_append,List.take_left' (by rw [ptrsV_len,List.length_map])] at h1
    exact h1
   have hskip:¬ act z.p k -> ZO L c0 p0 k0 N ⟨z.σ,z.c,z.p,td',z.now,z.tid,z.nv,z.j⟩:=fun hn =>
    ⟨⟨hA,hR,⟨cs,tg,hto,hcs',by show td'.length <= _; omega⟩,hzi.now,fun j hj => hzi.tds j (by rw [htd2]; exact List.mem_append_left _ hj)⟩,.skip (by rw [<-htd2]; exact hI.reach) hn,hI.ok,by show td'.length + z.p.T <= N; omega,hb2,hI.xs⟩
   have hz1:ZI L ⟨z.σ,z.c,z.p,td',z.now,z.tid,z.nv,0⟩:=⟨hA,hR,⟨cs,tg,hto,hcs',by show td'.length <= _; omega⟩,hzi.now,fun j hj => hzi.tds j (by rw [htd2]; exact List.mem_append_left _ hj)⟩
   have hμ:td'.length + z.p.T < z.td.length + z.p.T:=by omega
   have hqp:QP z.c (.inp k) (.itm k) L.ids[k] [.bool (z.p.at k).op,.bool (z.p.at k).fr,bv] [] 159 5 false 37 4 qv qf (z.p.at k).q.length (flat (tcellL (z.p.at k).q)):=⟨by simp,hob,hq⟩
   have hql:=hI.ok.q k
   have hin:∀ (Q:Post) (a:AAct) (σ:State),atF a (F87i L L.ids[k] bv (z.p.at k).beh.length ⟨z.σ,z.c,z.p,td',z.now,z.tid,z.nv,0⟩) [] (z.σ.Le σ) -> (∀ z':Z87,(ZIn L ⟨z.σ,z.c,z.p,td',z.now,z.tid,z.nv,0⟩ k (z.p.at k).beh z' /\ z'.j = (z.p.at k).beh.length) -> Q (.exit 2) (frm (F87i L L.ids[k] bv (z.p.at k).beh.length z') []) z'.σ) ->
     AWp (EV B w0 G) none (fnTmps Tryz.prog 87) (.loop (bodyOf (subPart [] (fnPart Tryz.prog [] 87 0) 0))) Q a σ:=fun Q a σ ha hq' =>
    loop87i hG hz1 rfl hb (fun i hi => by rw [hlen]; exact hI.ok.beh k i hi) (by show td'.length + _ <= _; omega) (by show z.now.length + _ <= _; omega) Q a σ ha fun z' h1 h2 => hq' z' ⟨h1,h2⟩
   have hfire:act z.p k -> ∀ z':Z87,(ZIn L ⟨z.σ,z.c,z.p,td',z.now,z.tid,z.nv,0⟩ k (z.p.at k).beh z' /\ z'.j = (z.p.at k).beh.length) -> ∃ (op fr:Bool) (bv2 qv2 qf2:AV),z'.σ.objs L.ids[k] = .cells [.bool op,.bool fr,bv2,qv2,qf2] 159 5 false /\
     ∃ c':MH,ZO L c0 p0 k0 N ⟨z'.σ.set L.ids[k] (.cells [.bool op,.bool fr,.nilslice,qv2,qf2] 159 5 false),c',fire z.p k,z'.td,z'.now,z'.tid,z'.nv,z'.j⟩ /\ z'.td.length + (fire z.p k).T < z.td.length + z.p.T:=fun hact z' ⟨h1,h2⟩ => by
    have hzi':=h1.zi
    have hp':z'.p = freeAll z.p (z.p.at k).beh:=by rw [h1.p,h2,List.take_length]
    have htd':z'.td = td' ++ (z.p.at k).beh:=by rw [h1.td,h2,List.take_length]
    have hnow':z'.now = z.now ++ (z.p.at k).beh:=by rw [h1.now,h2,List.take_length]
    obtain ⟨bv2,qv2,qf2,hob2,hb2',hq2⟩:=(hzi'.rep.inp k hk).ex
    have hT:=fire_T hkp hI.ok
    have hfe:fire z.p k = z'.p.setI k { z'.p.at k with beh:=[] }:=by unfold fire; rw [hp']
    obtain ⟨c',hAt',hself,hne'⟩:∃ c':MH,At c' (z'.σ.set L.ids[k] (.cells [.bool (z'.p.at k).op,.bool (z'.p.at k).fr,.nilslice,qv2,.int .i64 (qf2:Int)] 159 5 false)) /\ c' (.inp k) = some (L.ids[k],.cells [.bool (z'.p.at k).op,.bool (z'.p.at k).fr,.nilslice,qv2,.int .i64 (qf2:Int)] 159 5 false) /\ ∀ q,q ≠ .inp k -> c' q = z'.c q :=
     ⟨_,hzi'.at_.set hob2 _,hup_self,fun q hq => hup_ne hq⟩
    refine ⟨_,_,_,_,_,hzi'.at_.obj hob2,c',⟨⟨hAt',?_,?_,?_,hzi'.tds⟩,?_,fire_ok hkp hI.ok,?_,?_,?_⟩,?_⟩
    ·show Rep c' L (fire z.p k)
     rw [hfe]
     refine hzi'.rep.upd ((hne' _ (by simp)).trans hzi'.rep.m) rfl rfl (hne' _ (by simp)) (hzi'.rep.turn.congr (hne' _ (by simp))) List.length_set fun j hj => ?_
     have hkl':k < z'.p.I.length:=by rw [<-hzi'.rep.len]; exact hk
     rw [PM.setI_at hkl']
     by_cases hjk:j = k
     ·subst hjk
      rw [if_pos rfl]
      exact ⟨.nilslice,qv2,qf2,hself,.nil,hq2.congr (hne' _ (by simp))⟩
     ·rw [if_neg hjk]
      exact (hzi'.rep.inp j hj).congr (hne' _ (by simpa using hjk)) (hne' _ (by simp)) (hne' _ (by simp))
    ·obtain ⟨cs2,g2,h3,h4⟩:=hzi'.todo
     exact ⟨cs2,g2,(hne' _ (by simp)).trans h3,h4⟩
    ·exact hzi'.now.congr (hne' _ (by simp))
    ·show FReach p0 [k0] [] (fire z.p k) z'.td z'.now
     rw [htd',hnow']
     exact .go (by rw [<-htd2]; exact hI.reach) hact
    ·show z'.td.length + (fire z.p k).T <= N
     rw [htd',List.length_append]; omega
    ·show z'.now.length + (fire z.p k).T <= N
     rw [hnow',List.length_append]; omega
    ·exact hI.xs.trans (h1.xs.trans fun x => hne' _ (by simp))
    ·rw [htd',List.length_append]; omega
   have fin:∀ {n:Nat} (e:n = z.td.length),(decide ((n:Int) > 0)) = true:=fun e => decide_eq_true (by omega)
   rcases hb.inv with ⟨rfl,hnil⟩ | ⟨bid,nb,bg,rfl,hbs,hbl⟩
   ·have hb0:(z.p.at k).beh = []:=List.map_eq_nil_iff.1 hnil
    rw [hb0] at hfire hin
    refine wpX_ok (H87_ok hG) (EV_mixed B w0 G) (L:=T87i L (fun z' id' bv' nb' => z' = ⟨z.σ,z.c,z.p,td',z.now,z.tid,z.nv,0⟩ /\ id' = L.ids[k] /\ bv' = .nilslice /\ nb' = 0) (fun _ _ _ _ z' => ZIn L ⟨z.σ,z.c,z.p,td',z.now,z.tid,z.nv,0⟩ k [] z' /\ z'.j = ([]:List Nat).length)) _ _ _ _ (fun p hp hc Q a σ kk => ?_) (by kernel_rfl) ((vc87on B w0 G L _ _ (ZO L c0 p0 k0 N) (fun z => z.td.length + z.p.T) z).mpr ?_)
    ·rw [subParts_87] at hp
     simp only [List.mem_cons,List.not_mem_nil,or_false] at hp
     subst hp
     obtain ⟨z',id',bv',nb',⟨rfl,rfl,rfl,rfl⟩,h1,h2⟩:=kk
     exact hin Q a σ h1 h2
    ·simp only [hto',hobj,hget,wl,ex_OM,ex_OE,ex_RS,ex_OI,objs_set,objs_new,next_set,next_new,if_true,if_false,AObj.cells.injEq,List.cons.injEq,AV.int.injEq,AV.ptr.injEq,AV.bool.injEq,AV.rslice.injEq,nat_inj,Nat.zero_add,Nat.mul_one,Nat.sub_zero,Int.toNat_natCast,intsV_len,ptrsV_len,eq_self,true_and,and_true,exists_eq_left',exists_eq_left,exists_and_left,exists_and_right,and_assoc,exists_eq',exists_const,List.getD_cons_zero,List.getD_cons_succ,Nat.reduceLT,Nat.reduceLeDiff]
     refine bcase_of (fun _ => ⟨by omega,by omega,by omega,by omega,by omega,bcase_of (fun h => ⟨_,hskip (fun hn => by rw [hn.1] at h; cases h),hμ,rfl,rfl,.refl _⟩) (fun h1 => bcase_of (fun h => ⟨_,hskip (fun hn => by rw [hn.2.1] at h; cases h),hμ,rfl,rfl,.refl _⟩) (fun h2 => ⟨z.c,hA,.inp k,.itm k,_,_,_,_,_,_,_,_,⟨_,hqp⟩,rfl,hql,bcase_of (fun h => ⟨_,hskip (fun hn => by rw [hn.2.2] at h; cases h),hμ,rfl,rfl,.refl _⟩) (fun h3 => ⟨rfl,rfl,.refl _,fun z' hz' => ?_⟩)⟩))⟩) (fun h => by have h:=of_decide_eq_false h; omega)
     have hact:act z.p k:=⟨by simpa using h1,h2,List.length_eq_zero_iff.1 (by have h3:=of_decide_eq_false h3; omega)⟩
     obtain ⟨op,fr,bv2,qv2,qf2,g1,c',g2,g3⟩:=hfire hact z' hz'
     exact ⟨op,fr,bv2,qv2,qf2,g1,_,g2,g3,rfl,rfl,.refl _⟩
   ·rw [intsV_len,Nat.mul_one] at hbl
    rw [hbl] at hin hfire
    refine wpX_ok (H87_ok hG) (EV_mixed B w0 G) (L:=T87i L (fun z' id' bv' nb' => z' = ⟨z.σ,z.c,z.p,td',z.now,z.tid,z.nv,0⟩ /\ id' = L.ids[k] /\ bv' = .rslice bid 0 nb /\ nb' = nb) (fun _ _ _ _ z' => ZIn L ⟨z.σ,z.c,z.p,td',z.now,z.tid,z.nv,0⟩ k (z.p.at k).beh z' /\ z'.j = nb)) _ _ _ _ (fun p hp hc Q a σ kk => ?_) (by kernel_rfl) ((vc87or B w0 G L _ _ (ZO L c0 p0 k0 N) (fun z => z.td.length + z.p.T) z).mpr ?_)
    ·rw [subParts_87] at hp
     simp only [List.mem_cons,List.not_mem_nil,or_false] at hp
     subst hp
     obtain ⟨z',id',bv',nb',⟨rfl,rfl,rfl,rfl⟩,h1,h2⟩:=kk
     exact hin Q a σ h1 h2
    ·simp only [hto',hobj,hget,wl,ex_OM,ex_OE,ex_RS,ex_OI,objs_set,objs_new,next_set,next_new,if_true,if_false,AObj.cells.injEq,List.cons.injEq,AV.int.injEq,AV.ptr.injEq,AV.bool.injEq,AV.rslice.injEq,nat_inj,Nat.zero_add,Nat.mul_one,Nat.sub_zero,Int.toNat_natCast,intsV_len,ptrsV_len,eq_self,true_and,and_true,exists_eq_left',exists_eq_left,exists_and_left,exists_and_right,and_assoc,exists_eq',exists_const,List.getD_cons_zero,List.getD_cons_succ,Nat.reduceLT,Nat.reduceLeDiff]
     refine bcase_of (fun _ => ⟨by omega,by omega,by omega,by omega,by omega,bcase_of (fun h => ⟨_,hskip (fun hn => by rw [hn.1] at h; cases h),hμ,rfl,rfl,.refl _⟩) (fun h1 => bcase_of (fun h => ⟨_,hskip (fun hn => by rw [hn.2.1] at h; cases h),hμ,rfl,rfl,.refl _⟩) (fun h2 => ⟨z.c,hA,.inp k,.itm k,_,_,_,_,_,_,_,_,⟨_,hqp⟩,rfl,hql,bcase_of (fun h => ⟨_,hskip (fun hn => by rw [hn.2.2] at h; cases h),hμ,rfl,rfl,.refl _⟩) (fun h3 => ?_)⟩))⟩) (fun h => by have h:=of_decide_eq_false h; omega)
     have hact:act z.p k:=⟨by simpa using h1,h2,List.length_eq_zero_iff.1 (by have h3:=of_decide_eq_false h3; omega)⟩
     refine ⟨rfl,.refl _,fun z' hz' => ?_⟩
     obtain ⟨op,fr,bv2,qv2,qf2,g1,c',g2,g3⟩:=hfire hact z' hz'
     exact ⟨op,fr,bv2,qv2,qf2,g1,_,g2,g3,rfl,rfl,.refl _⟩
 ·cases e with
  | exit id =>
   match id,k with
   | 0,k => exact ⟨_,_,(atF_ok k.2).1,(atF_ok k.2).2,hQ z hI (List.length_eq_zero_iff.1 k.1)⟩
  | normal => exact absurd rfl hne
  | _ => exact k.elim
end
end Go.V
/- Inputs that become free: the contract. -/
namespace Go.V
open Go Go.Proofs

def mrest (p:PM):List AV:=[.int .i64 (p.came:Int),.int .i64 (p.gone:Int),.int .i64 (p.work:Int),.int .i64 (p.count:Int)]
theorem Rep.turnQP {c:MH} {L:ML} {p:PM} (h:Rep c L p):QP c .m .turn L.M [L.iv] (mrest p) 153 7 false 3 1 L.tv L.tf p.turn.length (intsV p.turn):=⟨by simp,h.m,h.turn⟩
theorem Rep.ofTurn {c c':MH} {L:ML} {p:PM} (h:Rep c L p) {lv:AV} {fr:Nat} {t:List Nat} (hq:QP c' .m .turn L.M [L.iv] (mrest p) 153 7 false 3 1 lv fr t.length (intsV t)) (hs:Same c c' [.m,.turn]):Rep c' { L with tv:=lv,tf:=fr } { p with turn:=t } where
 m:=hq.ob
 ins:=h.ins.congr (hs _ (by simp))
 turn:=hq.q
 len:=h.len
 inp k hk:=(h.inp k hk).congr (hs _ (by simp)) (hs _ (by simp)) (hs _ (by simp))

def push87 (p:PM) (i:Nat):PM:=if (p.at i).q.length = 0 then p else { p with turn:=p.turn ++ [i] }
def pushAll (p:PM) (l:List Nat):PM:=l.foldl push87 p
theorem pushAll_snoc (p:PM) (l:List Nat) (i:Nat):pushAll p (l ++ [i]) = push87 (pushAll p l) i:=by unfold pushAll; rw [List.foldl_append]; rfl
theorem push87_I (p:PM) (i:Nat):(push87 p i).I = p.I:=by unfold push87; split <;> rfl
theorem pushAll_I (l:List Nat):∀ p:PM,(pushAll p l).I = p.I:=by
 induction l with
 | nil => exact fun p => rfl
 | cons i l ih => exact fun p => (ih _).trans (push87_I p i)
theorem push87_turn (p:PM) (i:Nat):(push87 p i).turn.length <= p.turn.length + 1:=by
 unfold push87; split
 ·omega
 ·simp
theorem pushAll_turn (l:List Nat):∀ p:PM,(pushAll p l).turn.length <= p.turn.length + l.length:=by
 induction l with
 | nil => exact fun p => Nat.le_refl _
 | cons i l ih => exact fun p => by have:=ih (push87 p i); have:=push87_turn p i; simp; show (pushAll (push87 p i) l).turn.length <= _; omega
theorem PM.at_I {p p':PM} (h:p'.I = p.I) (k:Nat):p'.at k = p.at k:=by unfold PM.at; rw [h]

structure YI (L:ML) (c1:MH) (p1:PM) (ns:List Nat) (y:Y87):Prop where
 at_:At y.c y.σ
 rep:Rep y.c y.L y.p
 M:y.L.M = L.M
 ids:y.L.ids = L.ids
 j:y.j <= ns.length
 p:y.p = pushAll p1 (ns.take y.j)
 now:y.c .now = c1 .now
 xs:Frame' c1 y.c

section
variable {B:Nat} {w0:World} {G:Nat -> AV}
variable (hG:∀ i,NoId (G i))
include hG

theorem loop87l {L:ML} {c1:MH} {p1:PM} {ns:List Nat} {nv:AV} (hs:SlAt c1 .now 3 1 nv (intsV ns)) (hns:∀ i ∈ ns,i < L.ids.length) (hp1:p1.Ok) (hb:p1.turn.length + ns.length <= 100000) {y0:Y87} (h0:YI L c1 p1 ns y0) (Q:Post) (a:AAct) (σ:State) (ha:atF a (F87l L.M nv ns.length y0) [] (y0.σ.Le σ))
  (hQ:∀ y',YI L c1 p1 ns y' -> y'.j = ns.length -> Q (.exit 4) (frm [] []) y'.σ):AWp (EV B w0 G) none (fnTmps Tryz.prog 87) (.loop (bodyOf (subPart [] (fnPart Tryz.prog [15] 87 1) 0))) Q a σ:=by
 refine awp_loopS (ls87l L.M nv ns.length (YI L c1 p1 ns)) (x0:=y0) (fun y hI => ?_) (fun y hI e a σ hne k => ?_) h0 ha
 ·have hI:YI L c1 p1 ns y:=hI
  show AWp _ _ _ _ _ (frm (F87l L.M nv ns.length y) []) y.σ
  rcases hs.inv with ⟨rfl,hnil⟩ | ⟨nid,nn,ng,rfl,hns',hnl⟩
  ·have hn0:ns = []:=List.map_eq_nil_iff.1 hnil
   subst hn0
   have hj0:y.j = 0:=by have:=hI.j; simpa using this
   refine wpX_ok (H87_ok hG) (EV_mixed B w0 G) (L:=fun _ _ _ _ => False) _ _ _ _ (fun p hp hc Q a σ k => k.elim) (by kernel_rfl) ((vc87l0 B w0 G L.M (YI L c1 p1 []) y).mpr ?_)
   first
    | exact ⟨hj0,.refl _⟩
    | exact bcase_of (fun h => by have h:=of_decide_eq_true h; rw [hj0] at h; omega) (fun h => ⟨hj0,.refl _⟩)
  rw [intsV_len,Nat.mul_one] at hnl
  subst hnl
  have hA:=hI.at_
  have hR:=hI.rep
  have hM:=hR.obM hA
  rw [hI.M] at hM
  have hno:=hA.obj (hI.now.trans hns')
  refine wpX_ok (H87_ok hG) (EV_mixed B w0 G) (L:=fun _ _ _ _ => False) _ _ _ _ (fun p hp hc Q a σ k => k.elim) (by kernel_rfl) ((vc87l B w0 G L.M nid ns.length (YI L c1 p1 ns) y).mpr (bcase_of (fun hlt => ?_) (fun hlt => ?_)))
  ·have hlt:y.j < ns.length:=by have:=of_decide_eq_true hlt; omega
   have hi:ns[y.j] < L.ids.length:=hns _ (List.getElem_mem hlt)
   have hi':ns[y.j] < y.L.ids.length:=by rw [hI.ids]; exact hi
   obtain ⟨bv',qv,qf,hob,hb',hq'⟩:=(hR.inp _ hi').ex
   have hobj:=hA.obj hob
   have hget1:List.getD (intsV ns) y.j .undef = .int .i64 ((ns[y.j]:Nat):Int):=intsV_get hlt
   have hget2:List.getD (ptrsV y.L.ids) ns[y.j] .undef = .ptr y.L.ids[ns[y.j]] 0:=ptrsV_get hi'
   rcases hR.ins.inv with ⟨_,hnil⟩ | ⟨iid,im,ig,ei,his,hil⟩
   ·exact absurd (congrArg List.length hnil) (by rw [ptrsV_len]; show ¬ y.L.ids.length = 0; omega)
   rw [ptrsV_len,Nat.mul_one] at hil
   subst hil
   rw [ei] at hM
   have hio:=hA.obj his
   have wj:IntKind.wrap .i64 ((y.j:Int) + 1) = ((y.j + 1:Nat):Int):=by rw [wr_small (by omega) (by omega)]; omega
   simp only [ex_OM,ex_OE,ex_RS,ex_OI,hM,hno,hobj,hio,hget1,hget2,wj,objs_set,objs_new,next_set,next_new,if_true,if_false,AObj.cells.injEq,List.cons.injEq,AV.int.injEq,AV.ptr.injEq,AV.bool.injEq,AV.rslice.injEq,nat_inj,Nat.zero_add,Nat.mul_one,Int.toNat_natCast,intsV_len,ptrsV_len,eq_self,true_and,and_true,exists_eq_left',exists_eq_left,exists_and_left,exists_and_right,and_assoc,exists_eq',exists_const,List.getD_cons_zero,List.getD_cons_succ,Nat.reduceLT,Nat.reduceLeDiff]
   have hqp:QP y.c (.inp ns[y.j]) (.itm ns[y.j]) y.L.ids[ns[y.j]] [.bool (y.p.at ns[y.j]).op,.bool (y.p.at ns[y.j]).fr,bv'] [] 159 5 false 37 4 qv qf (y.p.at ns[y.j]).q.length (flat (tcellL (y.p.at ns[y.j]).q)):=⟨by simp,hob,hq'⟩
   have hat:∀ k,y.p.at k = p1.at k:=fun k => by rw [hI.p]; exact PM.at_I (pushAll_I _ _) k
   have hql:(y.p.at ns[y.j]).q.length <= 100000:=by rw [hat]; exact hp1.q _
   have hyt:y.p.turn.length <= 100000:=by
    have:=pushAll_turn (ns.take y.j) p1
    rw [<-hI.p,List.length_take] at this
    omega
   have et:ns.take (y.j + 1) = ns.take y.j ++ [ns[y.j]]:=by rw [List.take_add_one,List.getElem?_eq_getElem hlt]; rfl
   refine ⟨by omega,by omega,hlt,by omega,by omega,hi',y.c,hA,.inp ns[y.j],.itm ns[y.j],_,_,_,_,_,_,_,_,⟨_,hqp⟩,rfl,hql,bcase_of (fun h => ?_) (fun h => ?_)⟩
   ·have h:=of_decide_eq_true h
    have hqt:=hR.turnQP
    rw [hI.M] at hqt
    refine ⟨y.c,hA,.m,.turn,_,_,_,_,_,_,_,_,_,hqt,rfl,hyt,fun lv' c' σ' ⟨a1,a2,a3⟩ => ?_⟩
    have hrep:=hR.ofTurn (t:=y.p.turn ++ [ns[y.j]]) (by rw [hI.M,List.length_append,intsV_append]; exact a2) a3
    refine ⟨⟨σ',c',_,_,y.j + 1⟩,⟨a1,hrep,hI.M,hI.ids,hlt,?_,(a3 _ (by simp)).trans hI.now,hI.xs.trans fun x => a3 _ (by simp)⟩,show ns.length - (y.j + 1) < ns.length - y.j by omega,rfl,.refl _⟩
    show ({ y.p with turn:=y.p.turn ++ [ns[y.j]] }:PM) = _
    rw [et,pushAll_snoc,<-hI.p]
    unfold push87
    rw [if_neg (by omega)]
   ·have h:=of_decide_eq_false h
    refine ⟨⟨y.σ,y.c,y.L,y.p,y.j + 1⟩,⟨hA,hR,hI.M,hI.ids,hlt,?_,hI.now,hI.xs⟩,show ns.length - (y.j + 1) < ns.length - y.j by omega,rfl,.refl _⟩
    show y.p = _
    rw [et,pushAll_snoc,<-hI.p]
    unfold push87
    rw [if_pos (by omega)]
  ·have hlt:=of_decide_eq_false hlt
   have:=hI.j
   exact ⟨by omega,.refl _⟩
 ·cases e with
  | exit id =>
   match id,k with
   | 4,k => exact ⟨_,_,(atF_ok k.2).1,(atF_ok k.2).2,hQ y hI k.1⟩
  | normal => exact absurd rfl hne
  | _ => exact k.elim

omit hG in
theorem FReach.turn {p0 p:PM} {td0 now0 td now:List Nat} (h:FReach p0 td0 now0 p td now):p.turn = p0.turn:=by
 induction h with
 | refl => rfl
 | skip h ha ih => exact ih
 | go h ha ih =>
  refine Eq.trans ?_ ih
  show (freeAll _ _).turn = _
  have:∀ (l:List Nat) (p:PM),(freeAll p l).turn = p.turn:=by
   intro l
   induction l with
   | nil => exact fun p => rfl
   | cons i l ih => exact fun p => (ih (freeOne p i)).trans rfl
  exact this _ _
omit hG in
theorem FReach.now_mem {p0 p:PM} {td0 td now:List Nat} {n:Nat} (hok:p0.Ok) (hn:p0.I.length = n) (htd:∀ k ∈ td0,k < n) (h:FReach p0 td0 [] p td now):(∀ i ∈ now,i < n) /\ (∀ i ∈ td,i < n) /\ p.Ok /\ p.I.length = n:=by
 induction h with
 | refl => exact ⟨fun i hi => (by cases hi),htd,hok,hn⟩
 | skip h ha ih => exact ⟨ih.1,fun i hi => ih.2.1 i (List.mem_append_left _ hi),ih.2.2⟩
 | go h ha ih =>
  obtain ⟨h1,h2,h3,h4⟩:=ih
  have hk:=h2 _ (List.mem_append_right _ (List.mem_singleton_self _))
  refine ⟨fun i hi => ?_,fun i hi => ?_,fire_ok (by omega) h3,(fire_len _ _).trans h4⟩
  ·rcases List.mem_append.1 hi with hi | hi
   ·exact h1 i hi
   ·have:=h3.beh _ i hi; omega
  ·rcases List.mem_append.1 hi with hi | hi
   ·exact h2 i (List.mem_append_left _ hi)
   ·have:=h3.beh _ i hi; omega

def Freed (p:PM) (k:Nat) (p':PM):Prop:=∃ p1 now,FReach p [k] [] p1 [] now /\ p' = pushAll p1 (sortN now)
def C87m:Contract:=fun args σ K => ∃ (c:MH) (L:ML) (p:PM) (k id:Nat),args = [.ptr L.M 0,.ptr id 0] /\ (At c σ /\ Rep c L p /\ L.ids[k]? = some id /\ p.Ok /\ p.T <= 50000 /\ p.turn.length <= 40000) /\
 ∀ (c':MH) (L':ML) (p':PM) (σ':State),(At c' σ' /\ (L'.M = L.M /\ L'.ids = L.ids) /\ Rep c' L' p' /\ Freed p k p' /\ Frame' c c') -> K (.tuple []) σ'

theorem c87_ok:ContractOk (EV B w0 G) 87 C87m:=by
 rintro args σ Q ⟨c,L,p,k,id,rfl,⟨hA,hR,hk,hok,hT,hturn⟩,hQ⟩
 obtain ⟨hkl,hke⟩:=List.getElem?_eq_some_iff.1 hk
 have hlen:=hR.len
 -- where the freeing begins
 obtain ⟨c1,hA1,htodo,hnow1,hsame⟩:∃ c1:MH,At c1 (σ.new (.cells [.ptr id 0] 155 1 false)) /\ c1 .todo = some (σ.next,.cells [.ptr id 0] 155 1 false) /\ c1 .now = none /\ ∀ q,q ≠ .todo -> q ≠ .now -> c1 q = c q :=
  ⟨_,(hA.drop .now).new .todo _,hup_self,(hup_ne (by simp)).trans hup_self,fun q q1 q2 => (hup_ne q1).trans (hup_ne q2)⟩
 have hz0:ZO L c p k (p.T + 1) ⟨σ.new (.cells [.ptr id 0] 155 1 false),c1,p,[k],[],σ.next,.nilslice,0⟩:=by
  refine ⟨⟨hA1,hR.upd ((hsame _ (by simp) (by simp)).trans hR.m) rfl rfl (hsame _ (by simp) (by simp)) (hR.turn.congr (hsame _ (by simp) (by simp))) rfl (fun j hj => (hR.inp j hj).congr (hsame _ (by simp) (by simp)) (hsame _ (by simp) (by simp)) (hsame _ (by simp) (by simp))),⟨_,false,htodo,?_,Nat.le_refl _⟩,.nil,fun j hj => ?_⟩,.refl,hok,by show 1 + p.T <= _; omega,by show 0 + p.T <= _; omega,fun x => hsame _ (by simp) (by simp)⟩
  ·show [AV.ptr id 0].take 1 = ptrsV [idOf L k]
   rw [idOf_eq hkl,hke]; rfl
  ·simp at hj; subst hj; exact hkl
 -- what it comes to
 refine bodyX_ok (cuts:=[15]) (EV_mixed B w0 G) (H87_ok hG) (fun l hl hc Q a σ kk => ?_) ((vc87 B w0 G L (fun z => z = ⟨σ.new (.cells [.ptr id 0] 155 1 false),c1,p,[k],[],σ.next,.nilslice,0⟩) (fun z => ZO L c p k (p.T + 1) z /\ z.td = []) (fun y => ∃ p',At y.c y.σ /\ (y.L.M = L.M /\ y.L.ids = L.ids) /\ Rep y.c y.L p' /\ Freed p k p' /\ Frame' c y.c) σ id Q).mpr ?_)
 ·change l ∈ fnParts Tryz.prog [15] 87 at hl
  rw [fnParts_87c] at hl
  simp only [List.mem_cons,List.not_mem_nil,or_false] at hl
  rcases hl with rfl | rfl
  ·refine handL_ok (P:=fun c Q a σ => AWp (EV B w0 G) none (fnTmps Tryz.prog 87) c Q a σ) kk (fun _ kk => ?_) fun kk => ?_
   ·obtain ⟨z,rfl,h1,h2⟩:=kk
    rw [part87]
    exact loop87o hG (by omega) hz0 Q a σ h1 fun z' h3 h4 => h2 z' ⟨h3,h4⟩
   ·exact handL_ok (P:=fun c Q a σ => AWp (EV B w0 G) none (fnTmps Tryz.prog 87) c Q a σ) kk (fun e _ => by rw [headId_87.1] at e; simp at e) (fun kk => kk.elim)
  ·refine handL_ok (P:=fun c Q a σ => AWp (EV B w0 G) none (fnTmps Tryz.prog 87) c Q a σ) kk (fun e _ => by rw [headId_87.2.1] at e; simp at e) fun kk => ?_
   refine handL_ok (P:=fun c Q a σ => AWp (EV B w0 G) none (fnTmps Tryz.prog 87) c Q a σ) kk (fun _ kk => ?_) (fun kk => kk.elim)
   obtain ⟨z,⟨hz,hztd⟩,h1,h2⟩:=kk
   obtain ⟨g1,g2,g3,g4⟩:=hz.reach.now_mem hok rfl (by simp; rw [<-hlen]; exact hkl)
   have hzi:=hz.zi
   have hb2:=hz.b2
   have hpt:z.p.turn = p.turn:=hz.reach.turn
   have hsl:=sortN_length z.now
   have hns:∀ i ∈ sortN z.now,i < L.ids.length:=fun i hi => by rw [hlen]; exact g1 i (List.mem_mergeSort.1 hi)
   have h1':atF a [(0,.v (.ptr L.M 0)),(4,.v (.rslice z.tid 0 z.td.length)),(5,.v z.nv)] [] (z.σ.Le σ):=h1
   have hreach:FReach p [k] [] z.p [] z.now:=by
    have:=hz.reach
    rw [hztd] at this; exact this
   have hbt:z.p.turn.length + (sortN z.now).length <= 100000:=by rw [hpt,hsl]; omega
   have fin:∀ (c1:MH) (y:Y87),Frame' c c1 -> YI L c1 z.p (sortN z.now) y -> y.j = (sortN z.now).length -> ∃ p',At y.c y.σ /\ (y.L.M = L.M /\ y.L.ids = L.ids) /\ Rep y.c y.L p' /\ Freed p k p' /\ Frame' c y.c:=fun c1 y hx hy hj =>
    ⟨y.p,hy.at_,⟨hy.M,hy.ids⟩,hy.rep,⟨z.p,z.now,hreach,by rw [hy.p,hj,List.take_length]⟩,hx.trans hy.xs⟩
   have last:∀ (c1:MH) (σ1:State),At c1 σ1 -> SlAt c1 .now 3 1 z.nv (intsV (sortN z.now)) -> Same z.c c1 [.now] -> YI L c1 z.p (sortN z.now) ⟨σ1,c1,L,z.p,0⟩:=fun c1 σ1 a1 a2 a3 =>
    ⟨a1,hzi.rep.upd ((a3 _ (by simp)).trans hzi.rep.m) rfl rfl (a3 _ (by simp)) (hzi.rep.turn.congr (a3 _ (by simp))) rfl (fun j hj => (hzi.rep.inp j hj).congr (a3 _ (by simp)) (a3 _ (by simp)) (a3 _ (by simp))),rfl,rfl,Nat.zero_le _,by simp [pushAll],rfl,.refl _⟩
   have body:∀ (Q:Post) (a:AAct) (σ:State),(∃ y:Y87,(∃ c2,Frame' c c2 /\ SlAt c2 .now 3 1 z.nv (intsV (sortN z.now)) /\ YI L c2 z.p (sortN z.now) y) /\ atF a (F87l L.M z.nv (sortN z.now).length y) [] (y.σ.Le σ) /\ ∀ y':Y87,(∃ p',At y'.c y'.σ /\ (y'.L.M = L.M /\ y'.L.ids = L.ids) /\ Rep y'.c y'.L p' /\ Freed p k p' /\ Frame' c y'.c) -> Q (.exit 4) (frm [] []) y'.σ) ->
     AWp (EV B w0 G) none (fnTmps Tryz.prog 87) (.loop (bodyOf (subPart [] (fnPart Tryz.prog [15] 87 1) 0))) Q a σ:=fun Q a σ ⟨y,⟨c2,hx,hs2,hy⟩,ha,hq⟩ =>
    loop87l hG hs2 hns g3 hbt hy Q a σ ha fun y' b1 b2 => hq y' (fin c2 y' hx b1 b2)
   rcases hzi.now.inv with ⟨env,hnn⟩ | ⟨nid,nn,ng,env,hns',hnnl⟩
   ·have hn0:z.now = []:=List.map_eq_nil_iff.1 hnn
    rw [env] at h1'
    have hsn:(sortN z.now).length = 0:=by rw [hsl,hn0]; rfl
    rw [hsn,env] at body
    refine awp_cut (cs87 (fun y => ∃ p',At y.c y.σ /\ (y.L.M = L.M /\ y.L.ids = L.ids) /\ Rep y.c y.L p' /\ Freed p k p' /\ Frame' c y.c)) (wpX_ok (H87_ok hG) (EV_mixed B w0 G) (L:=T87l L.M .nilslice 0 (fun y => ∃ c2,Frame' c c2 /\ SlAt c2 .now 3 1 .nilslice (intsV (sortN z.now)) /\ YI L c2 z.p (sortN z.now) y) _) _ _ _ _ (fun pt hp hc Q a σ kk => ?_) (by kernel_rfl) ((vc87tn B w0 G L _ _ z).mpr ?_)) h1' h2
    ·rw [subParts_87l] at hp
     simp only [List.mem_cons,List.not_mem_nil,or_false] at hp
     subst hp
     exact body Q a σ kk
    ·refine ⟨z.c,.nilslice,z.now,rfl,⟨hzi.at_,by rw [<-env]; exact hzi.now,by omega⟩,fun c2 σ2 ⟨b1,b2,b3⟩ => ⟨⟨σ2,c2,L,z.p,0⟩,⟨c2,hz.xs.trans fun x => b3 _ (by simp),b2,last c2 σ2 b1 (by rw [env]; exact b2) b3⟩,⟨rfl,rfl,rfl,rfl,.refl _⟩,fun y' hy' => ⟨y',hy',.refl _⟩⟩⟩
   ·rw [intsV_len,Nat.mul_one] at hnnl
    rw [env] at h1'
    rw [hsl,hnnl,env] at body
    refine awp_cut (cs87 (fun y => ∃ p',At y.c y.σ /\ (y.L.M = L.M /\ y.L.ids = L.ids) /\ Rep y.c y.L p' /\ Freed p k p' /\ Frame' c y.c)) (wpX_ok (H87_ok hG) (EV_mixed B w0 G) (L:=T87l L.M (.rslice nid 0 nn) nn (fun y => ∃ c2,Frame' c c2 /\ SlAt c2 .now 3 1 (.rslice nid 0 nn) (intsV (sortN z.now)) /\ YI L c2 z.p (sortN z.now) y) _) _ _ _ _ (fun pt hp hc Q a σ kk => ?_) (by kernel_rfl) ((vc87tr B w0 G L _ _ nid nn z).mpr ?_)) h1' h2
    ·rw [subParts_87l] at hp
     simp only [List.mem_cons,List.not_mem_nil,or_false] at hp
     subst hp
     exact body Q a σ kk
    ·refine ⟨z.c,.rslice nid 0 nn,z.now,rfl,⟨hzi.at_,by rw [<-env]; exact hzi.now,by omega⟩,fun c2 σ2 ⟨b1,b2,b3⟩ => ⟨⟨σ2,c2,L,z.p,0⟩,⟨c2,hz.xs.trans fun x => b3 _ (by simp),b2,last c2 σ2 b1 (by rw [env]; exact b2) b3⟩,⟨rfl,rfl,rfl,rfl,.refl _⟩,fun y' hy' => ⟨y',hy',.refl _⟩⟩⟩
 ·refine ⟨_,rfl,⟨rfl,rfl,rfl,.refl _⟩,fun z' hz' => ⟨z',hz',⟨rfl,rfl,rfl,.refl _⟩,fun y hy => ?_⟩⟩
  obtain ⟨p',hy⟩:=hy
  exact hQ _ _ p' _ hy
end
end Go.V
