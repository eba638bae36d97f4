import Derived.Test.YtgnjidopnplbbaaGreatDoorG19
import Derived.Shelf.Sort.Plain
import Derived.Shelf.Slices.In.SortNone
import Derived.KernelRfl
import Derived.Test.YtgnjidopnplbbaaGreatDoorProg
import Derived.Sort.OwnSortedInts
/- Conditions: inputs that become free. -/
set_option maxRecDepth 1000000
set_option linter.unusedVariables false
namespace Go.V
open Go Go.Proofs

def sortN (l:List Nat):List Nat:=l.mergeSort fun a b => decide (a <= b)
def C125m:Contract:=fun args σ K => ∃ (c:MH) (v:AV) (l:List Nat),args = [v] /\ (At c σ /\ SlAt c .now 3 1 v (intsV l) /\ l.length <= 1000000) /\
 ∀ (c':MH) (σ':State),(At c' σ' /\ SlAt c' .now 3 1 v (intsV (sortN l)) /\ Same c c' [.now]) -> K (.tuple []) σ'
def A87:Nat -> FnAnn:=fun f => match Nat.beq f 87 with
 | true => ⟨fun id i => annB ((luk ([]:List Nat) [(0,[1]),(11,[3]),(12,[3])] id).contains i),luk [] []⟩
 | false => annA f
def H87 (E:Env):Hand:=hnd E A87 noHints [(88,C90q 37 4),(89,C89q 3 1 fun x:Int => .int .i64 x),(125,C125m)]

structure Z87 where
 σ:State
 c:MH
 p:PM
 td:List Nat
 now:List Nat
 tid:Nat
 nv:AV
 j:Nat
def F87i (L:ML) (id:Nat) (bv:AV) (nb:Nat) (z:Z87):List (Nat × TV):=[(0,.v (.ptr L.M 0)),(4,.v (.rslice z.tid 0 z.td.length)),(5,.v z.nv),(6,.v (.ptr id 0)),(49,.v bv),(50,.v (.int .i64 (nb:Int))),(51,.v (.int .i64 (z.j:Int)))]
def ls87i (L:ML) (id:Nat) (bv:AV) (nb:Nat) (I:Z87 -> Prop):LS Z87 where
 F z:=F87i L id bv nb z
 FL _:=[]
 S z:=z.σ
 I:=I
 μ z:=nb - z.j
 Ex z e a σ:=match e with
  | .exit 2 => z.j = nb /\ atF a (F87i L id bv nb z) [] (z.σ.Le σ)
  | _ => False
def N87i (r:Bool):FnHint:=hAt [(8,0,hEl 3 1),(8,1,hElInt),(9,4,hMR),(9,6,hEl 155 1),(9,7,hPtr),(10,3,hI),(11,3,match r with | true => hEl 3 1 | false => Hint.s),(12,3,hEl 155 1)]
theorem vc87in (B:Nat) (w0:World) (G:Nat -> AV) (L:ML) (id bid nb:Nat) (I:Z87 -> Prop) (z:Z87):(wpX [] (EV B w0 G) (H87 (EV B w0 G)) (fun _ _ _ _ => False) (A87 87) (N87i false) (bodyOf (subPart [] (fnPart Tryz.prog [] 87 0) 0)) ((ls87i L id (.rslice bid 0 nb) nb I).post z) (frm [(0,.v (.ptr L.M 0)),(4,.v (.rslice z.tid 0 z.td.length)),(5,.v .nilslice),(6,.v (.ptr id 0)),(49,.v (.rslice bid 0 nb)),(50,.v (.int .i64 (nb:Int))),(51,.v (.int .i64 (z.j:Int)))] []) z.σ) =
 ((bcase (decide ((((Z87.j z:Nat):Int):Int) < ((nb:Nat):Int)))
 (∃ a0:OE,(((State.objs (z.1) (bid)) = (AObj.cells (OE.cs a0) 3 1 (OE.g a0)))/\
 ((((0:Int) <= ((Z87.j z:Nat):Int))/\
 ((((Z87.j z:Nat):Int):Int) < ((nb:Nat):Int)))/\
 (∃ a1:OE,(((State.objs (z.1) (bid)) = (AObj.cells (OE.cs a1) 3 1 (OE.g a1)))/\
 (((((0 + (Int.toNat ((Z87.j z:Nat):Int))) * 1):Nat) < (List.length (OE.cs a1)))/\
 (∃ x2:Nat,(((List.getD (OE.cs a1) ((0 + Int.toNat (↑(Z87.j z):Int)) * 1) AV.undef) = (AV.int .i64 ((x2:Nat):Int)))/\
 (∃ a3:OM,(((State.objs (z.1) (ML.M L)) = (AObj.cells [(OM.iv a3),(OM.tv a3),(OM.tf a3),(AV.int .i64 ((OM.came a3:Nat):Int)),(AV.int .i64 ((OM.gone a3:Nat):Int)),(AV.int .i64 ((OM.work a3:Nat):Int)),(AV.int .i64 ((OM.count a3:Nat):Int))] 153 7 false))/\
 (((0:Nat) < 7)/\
 (∃ x4:RS,(((List.getD [OM.iv a3,OM.tv a3,OM.tf a3,AV.int .i64 (↑(OM.came a3):Int),AV.int .i64 (↑(OM.gone a3):Int),AV.int .i64 (↑(OM.work a3):Int),AV.int .i64 (↑(OM.count a3):Int)] 0 AV.undef) = (AV.rslice (RS.id x4) 0 (RS.n x4)))/\
 (∃ a5:OE,(((State.objs (z.1) (RS.id x4)) = (AObj.cells (OE.cs a5) 155 1 (OE.g a5)))/\
 ((((0:Int) <= ((x2:Nat):Int))/\
 ((((x2:Nat):Int):Int) < ((RS.n x4:Nat):Int)))/\
 (∃ a6:OE,(((State.objs (z.1) (RS.id x4)) = (AObj.cells (OE.cs a6) 155 1 (OE.g a6)))/\
 (((((0 + (Int.toNat ((x2:Nat):Int))) * 1):Nat) < (List.length (OE.cs a6)))/\
 (∃ x7:Nat,(((List.getD (OE.cs a6) ((0 + Int.toNat (↑x2:Int)) * 1) AV.undef) = (AV.ptr (x7) 0))/\
 (∃ a8:OI,(((State.objs (z.1) (x7)) = (AObj.cells [(AV.bool (OI.op a8)),(AV.bool (OI.fr a8)),(OI.bv a8),(OI.qv a8),(OI.qf a8)] 159 5 false))/\
 (((2:Nat) <= 5)/\
 ((((8:Nat) <= 140737488355328)/\
 ((1:Nat) <= 4611686018427387904))/\
 (∃ a9:OE,(((State.objs (State.new (State.set (z.1) (x7) (AObj.cells [(AV.bool (OI.op a8)),(AV.bool true),(OI.bv a8),(OI.qv a8),(OI.qf a8)] 159 5 false)) (AObj.cells [(AV.int .i64 ((x2:Nat):Int))] 3 1 true)) (Z87.tid z)) = (AObj.cells (OE.cs a9) 155 1 (OE.g a9)))/\
 ((((0:Nat) = 0)/\
 (((((((List.length (Z87.td z)) + 1) * 8):Nat) <= 140737488355328)/\
 ((((List.length (Z87.td z)) + 1):Nat) <= 4611686018427387904))/\
 ((((List.length (Z87.td z)) * 1):Nat) <= (List.length (OE.cs a9)))))/\
 (∃ x'10:Z87,(((I (x'10))/\
 (((LS.μ (ls87i L id (AV.rslice bid 0 nb) nb I) x'10):Nat) < (LS.μ (ls87i L id (AV.rslice bid 0 nb) nb I) z)))/\
 ((Rf (TV.v (AV.ptr (ML.M L) 0)))/\
 (((TV.v (AV.rslice ((State.next (z.1)) + 1) 0 ((List.length (Z87.td z)) + 1))) = (TV.v (AV.rslice (Z87.tid x'10) 0 (List.length (Z87.td x'10)))))/\
 (((TV.v (AV.rslice (State.next (z.1)) 0 1)) = (TV.v (Z87.nv x'10)))/\
 ((Rf (TV.v (AV.ptr (id) 0)))/\
 ((Rf (TV.v (AV.rslice (bid) 0 (nb))))/\
 ((Rf (TV.v (AV.int .i64 ((nb:Nat):Int))))/\
 (((TV.v (AV.int .i64 (IntKind.wrap .i64 (((Z87.j z:Nat):Int) + 1)))) = (TV.v (AV.int .i64 ((Z87.j x'10:Nat):Int))))/\
 (State.Le ((ls87i L id (AV.rslice bid 0 nb) nb I).3 x'10) (State.new (State.set (State.new (State.set (z.1) (x7) (AObj.cells [(AV.bool (OI.op a8)),(AV.bool true),(OI.bv a8),(OI.qv a8),(OI.qf a8)] 159 5 false)) (AObj.cells [(AV.int .i64 ((x2:Nat):Int))] 3 1 true)) (Z87.tid z) AObj.dead) (AObj.cells ((List.take ((List.length (Z87.td z)) * 1) (OE.cs a9)) ++ [(AV.ptr (x7) 0)]) 155 1 true))))))))))))))))))))))))))))))))))))))))
 (((Z87.j z:Nat) = (nb))/\
 ((Rf (TV.v (AV.ptr (ML.M L) 0)))/\
 ((Rf (TV.v (AV.rslice (Z87.tid z) 0 (List.length (Z87.td z)))))/\
 (((TV.v AV.nilslice) = (TV.v (Z87.nv z)))/\
 ((Rf (TV.v (AV.ptr (id) 0)))/\
 ((Rf (TV.v (AV.rslice (bid) 0 (nb))))/\
 ((Rf (TV.v (AV.int .i64 ((nb:Nat):Int))))/\
 ((Rf (TV.v (AV.int .i64 ((Z87.j z:Nat):Int))))/\
 (State.Le (z.1) (z.1)))))))))))):=by kernel_rfl
theorem vc87ir (B:Nat) (w0:World) (G:Nat -> AV) (L:ML) (id bid nb nid nn:Nat) (I:Z87 -> Prop) (z:Z87):(wpX [] (EV B w0 G) (H87 (EV B w0 G)) (fun _ _ _ _ => False) (A87 87) (N87i true) (bodyOf (subPart [] (fnPart Tryz.prog [] 87 0) 0)) ((ls87i L id (.rslice bid 0 nb) nb I).post z) (frm [(0,.v (.ptr L.M 0)),(4,.v (.rslice z.tid 0 z.td.length)),(5,.v (.rslice nid 0 nn)),(6,.v (.ptr id 0)),(49,.v (.rslice bid 0 nb)),(50,.v (.int .i64 (nb:Int))),(51,.v (.int .i64 (z.j:Int)))] []) z.σ) =
 ((bcase (decide ((((Z87.j z:Nat):Int):Int) < ((nb:Nat):Int)))
 (∃ a0:OE,(((State.objs (z.1) (bid)) = (AObj.cells (OE.cs a0) 3 1 (OE.g a0)))/\
 ((((0:Int) <= ((Z87.j z:Nat):Int))/\
 ((((Z87.j z:Nat):Int):Int) < ((nb:Nat):Int)))/\
 (∃ a1:OE,(((State.objs (z.1) (bid)) = (AObj.cells (OE.cs a1) 3 1 (OE.g a1)))/\
 (((((0 + (Int.toNat ((Z87.j z:Nat):Int))) * 1):Nat) < (List.length (OE.cs a1)))/\
 (∃ x2:Nat,(((List.getD (OE.cs a1) ((0 + Int.toNat (↑(Z87.j z):Int)) * 1) AV.undef) = (AV.int .i64 ((x2:Nat):Int)))/\
 (∃ a3:OM,(((State.objs (z.1) (ML.M L)) = (AObj.cells [(OM.iv a3),(OM.tv a3),(OM.tf a3),(AV.int .i64 ((OM.came a3:Nat):Int)),(AV.int .i64 ((OM.gone a3:Nat):Int)),(AV.int .i64 ((OM.work a3:Nat):Int)),(AV.int .i64 ((OM.count a3:Nat):Int))] 153 7 false))/\
 (((0:Nat) < 7)/\
 (∃ x4:RS,(((List.getD [OM.iv a3,OM.tv a3,OM.tf a3,AV.int .i64 (↑(OM.came a3):Int),AV.int .i64 (↑(OM.gone a3):Int),AV.int .i64 (↑(OM.work a3):Int),AV.int .i64 (↑(OM.count a3):Int)] 0 AV.undef) = (AV.rslice (RS.id x4) 0 (RS.n x4)))/\
 (∃ a5:OE,(((State.objs (z.1) (RS.id x4)) = (AObj.cells (OE.cs a5) 155 1 (OE.g a5)))/\
 ((((0:Int) <= ((x2:Nat):Int))/\
 ((((x2:Nat):Int):Int) < ((RS.n x4:Nat):Int)))/\
 (∃ a6:OE,(((State.objs (z.1) (RS.id x4)) = (AObj.cells (OE.cs a6) 155 1 (OE.g a6)))/\
 (((((0 + (Int.toNat ((x2:Nat):Int))) * 1):Nat) < (List.length (OE.cs a6)))/\
 (∃ x7:Nat,(((List.getD (OE.cs a6) ((0 + Int.toNat (↑x2:Int)) * 1) AV.undef) = (AV.ptr (x7) 0))/\
 (∃ a8:OI,(((State.objs (z.1) (x7)) = (AObj.cells [(AV.bool (OI.op a8)),(AV.bool (OI.fr a8)),(OI.bv a8),(OI.qv a8),(OI.qf a8)] 159 5 false))/\
 (((2:Nat) <= 5)/\
 (∃ a9:OE,(((State.objs (State.set (z.1) (x7) (AObj.cells [(AV.bool (OI.op a8)),(AV.bool true),(OI.bv a8),(OI.qv a8),(OI.qf a8)] 159 5 false)) (nid)) = (AObj.cells (OE.cs a9) 3 1 (OE.g a9)))/\
 ((((0:Nat) = 0)/\
 (((((((nn) + 1) * 8):Nat) <= 140737488355328)/\
 ((((nn) + 1):Nat) <= 4611686018427387904))/\
 ((((nn) * 1):Nat) <= (List.length (OE.cs a9)))))/\
 (∃ a10:OE,(((State.objs (State.new (State.set (State.set (z.1) (x7) (AObj.cells [(AV.bool (OI.op a8)),(AV.bool true),(OI.bv a8),(OI.qv a8),(OI.qf a8)] 159 5 false)) (nid) AObj.dead) (AObj.cells ((List.take ((nn) * 1) (OE.cs a9)) ++ [(AV.int .i64 ((x2:Nat):Int))]) 3 1 true)) (Z87.tid z)) = (AObj.cells (OE.cs a10) 155 1 (OE.g a10)))/\
 ((((0:Nat) = 0)/\
 (((((((List.length (Z87.td z)) + 1) * 8):Nat) <= 140737488355328)/\
 ((((List.length (Z87.td z)) + 1):Nat) <= 4611686018427387904))/\
 ((((List.length (Z87.td z)) * 1):Nat) <= (List.length (OE.cs a10)))))/\
 (∃ x'11:Z87,(((I (x'11))/\
 (((LS.μ (ls87i L id (AV.rslice bid 0 nb) nb I) x'11):Nat) < (LS.μ (ls87i L id (AV.rslice bid 0 nb) nb I) z)))/\
 ((Rf (TV.v (AV.ptr (ML.M L) 0)))/\
 (((TV.v (AV.rslice ((State.next (z.1)) + 1) 0 ((List.length (Z87.td z)) + 1))) = (TV.v (AV.rslice (Z87.tid x'11) 0 (List.length (Z87.td x'11)))))/\
 (((TV.v (AV.rslice (State.next (z.1)) 0 ((nn) + 1))) = (TV.v (Z87.nv x'11)))/\
 ((Rf (TV.v (AV.ptr (id) 0)))/\
 ((Rf (TV.v (AV.rslice (bid) 0 (nb))))/\
 ((Rf (TV.v (AV.int .i64 ((nb:Nat):Int))))/\
 (((TV.v (AV.int .i64 (IntKind.wrap .i64 (((Z87.j z:Nat):Int) + 1)))) = (TV.v (AV.int .i64 ((Z87.j x'11:Nat):Int))))/\
 (State.Le ((ls87i L id (AV.rslice bid 0 nb) nb I).3 x'11) (State.new (State.set (State.new (State.set (State.set (z.1) (x7) (AObj.cells [(AV.bool (OI.op a8)),(AV.bool true),(OI.bv a8),(OI.qv a8),(OI.qf a8)] 159 5 false)) (nid) AObj.dead) (AObj.cells ((List.take ((nn) * 1) (OE.cs a9)) ++ [(AV.int .i64 ((x2:Nat):Int))]) 3 1 true)) (Z87.tid z) AObj.dead) (AObj.cells ((List.take ((List.length (Z87.td z)) * 1) (OE.cs a10)) ++ [(AV.ptr (x7) 0)]) 155 1 true))))))))))))))))))))))))))))))))))))))))))
 (((Z87.j z:Nat) = (nb))/\
 ((Rf (TV.v (AV.ptr (ML.M L) 0)))/\
 ((Rf (TV.v (AV.rslice (Z87.tid z) 0 (List.length (Z87.td z)))))/\
 (((TV.v (AV.rslice (nid) 0 (nn))) = (TV.v (Z87.nv z)))/\
 ((Rf (TV.v (AV.ptr (id) 0)))/\
 ((Rf (TV.v (AV.rslice (bid) 0 (nb))))/\
 ((Rf (TV.v (AV.int .i64 ((nb:Nat):Int))))/\
 ((Rf (TV.v (AV.int .i64 ((Z87.j z:Nat):Int))))/\
 (State.Le (z.1) (z.1)))))))))))):=by kernel_rfl
end Go.V
/- slices.Sort at []int, at this program: the library's contract, laid in plain words (the numbers printed by the kit's own command). -/
namespace Go.Proofs
open Go.Shelf

def Tryz.lays189_ren:Ren:=⟨fun | 189 => 125 | 125 => 147 | 257 => 146 | 128 => 181 | 129 => 182 | 294 => 172 | 295 => 173 | 296 => 174 | 297 => 175 | 298 => 176 | 299 => 177 | 216 => 178 | 300 => 179 | 301 => 180 | 328 => 201 | 329 => 202 | 330 => 203 | 331 => 204 | 332 => 205 | 215 => 206 | 343 => 221 | n => n,fun | 28 => 26 | 3 => 3 | 46 => 85 | 0 => 0 | 51 => 270 | 53 => 272 | 4 => 4 | 183 => 262 | 182 => 261 | 131 => 267 | 5 => 5 | 9 => 9 | 218 => 287 | 222 => 291 | 228 => 298 | 229 => 190 | n => n,fun n => n⟩
theorem Tryz.lays189:Lays.n189 Tryz.prog Tryz.lays189_ren:={
 mixed:=by kernel_rfl
 f125:=by kernel_rfl
 f128:=by kernel_rfl
 f129:=by kernel_rfl
 f189:=by kernel_rfl
 f215:=by kernel_rfl
 f216:=by kernel_rfl
 f257:=by kernel_rfl
 f294:=by kernel_rfl
 f295:=by kernel_rfl
 f296:=by kernel_rfl
 f297:=by kernel_rfl
 f298:=by kernel_rfl
 f299:=by kernel_rfl
 f300:=by kernel_rfl
 f301:=by kernel_rfl
 f328:=by kernel_rfl
 f329:=by kernel_rfl
 f330:=by kernel_rfl
 f331:=by kernel_rfl
 f332:=by kernel_rfl
 f343:=by kernel_rfl
 t0:=by kernel_rfl
 a0:=fun w => by kernel_rfl
 z0:=fun w => by kernel_rfl
 v0:=fun w => by kernel_rfl
 t3:=by kernel_rfl
 a3:=fun w => by kernel_rfl
 z3:=fun w => by kernel_rfl
 v3:=fun w => by kernel_rfl
 t4:=by kernel_rfl
 a4:=fun w => by kernel_rfl
 z4:=fun w => by kernel_rfl
 v4:=fun w => by kernel_rfl
 t5:=by kernel_rfl
 a5:=fun w => by kernel_rfl
 z5:=fun w => by kernel_rfl
 v5:=fun w => by kernel_rfl
 t9:=by kernel_rfl
 a9:=fun w => by kernel_rfl
 z9:=fun w => by kernel_rfl
 v9:=fun w => by kernel_rfl
 t28:=by kernel_rfl
 a28:=fun w => by kernel_rfl
 z28:=fun w => by kernel_rfl
 v28:=fun w => by kernel_rfl
 t46:=by kernel_rfl
 a46:=fun w => by kernel_rfl
 z46:=fun w => by kernel_rfl
 v46:=fun w => by kernel_rfl
 t51:=by kernel_rfl
 a51:=fun w => by kernel_rfl
 z51:=fun w => by kernel_rfl
 v51:=fun w => by kernel_rfl
 t53:=by kernel_rfl
 a53:=fun w => by kernel_rfl
 z53:=fun w => by kernel_rfl
 v53:=fun w => by kernel_rfl
 t131:=by kernel_rfl
 a131:=fun w => by kernel_rfl
 z131:=fun w => by kernel_rfl
 v131:=fun w => by kernel_rfl
 t182:=by kernel_rfl
 a182:=fun w => by kernel_rfl
 z182:=fun w => by kernel_rfl
 v182:=fun w => by kernel_rfl
 t183:=by kernel_rfl
 a183:=fun w => by kernel_rfl
 z183:=fun w => by kernel_rfl
 v183:=fun w => by kernel_rfl
 t218:=by kernel_rfl
 a218:=fun w => by kernel_rfl
 z218:=fun w => by kernel_rfl
 v218:=fun w => by kernel_rfl
 t222:=by kernel_rfl
 a222:=fun w => by kernel_rfl
 z222:=fun w => by kernel_rfl
 v222:=fun w => by kernel_rfl
 t228:=by kernel_rfl
 a228:=fun w => by kernel_rfl
 z228:=fun w => by kernel_rfl
 v228:=fun w => by kernel_rfl
 t229:=by kernel_rfl
 a229:=fun w => by kernel_rfl
 z229:=fun w => by kernel_rfl
 v229:=fun w => by kernel_rfl
}
theorem Tryz.sort_int (blk off cap:Nat) (zs:List Int) (w:World) (hH:Go.Sort.Holds (Value.int .i64) w blk off zs.toArray) (hblk:blk < w.heap.size) (hsz:zs.length < 4611686018427387904) :
  Calls Tryz.prog 125 #[.slice (some ⟨blk,off,none⟩) zs.length cap] w fun e w' =>
   e = .returned (.tuple #[]) /\ ∃ n os,w' = Go.Sort.grow (Go.Sort.putRow (Value.int .i64) (Go.Sort.ahead w n) blk off (zs.mergeSort fun x y => decide (x <= y)).toArray) os:=Any.slices_Sort_int Tryz.lays189 blk off cap zs w hH hblk hsz
theorem Tryz.sort_none (p:Option Addr) (cap:Nat) (w:World) :
  Calls Tryz.prog 125 #[.slice p 0 cap] w fun e w' => e = .returned (.tuple #[]) /\ w' = w:=Any.slices_Sort_int_none Tryz.lays189 p cap w
#print axioms Tryz.sort_int
end Go.Proofs
/- slices.Sort at ints of our own: contract. -/
set_option linter.unusedSimpArgs false
set_option linter.unusedSectionVars false
namespace Go.V
open Go Go.Proofs

theorem sortN_map (l:List Nat):(l.map fun n:Nat => (n:Int)).mergeSort (fun x y => decide (x <= y)) = (sortN l).map fun n:Nat => (n:Int) :=
 (List.map_mergeSort fun a _ b _ => by simp).symm
theorem sortN_length (l:List Nat):(sortN l).length = l.length:=List.length_mergeSort _
theorem rvl_ints {g:Ghost}:∀ {l:List Nat} {vs:List Value},RVL g (intsV l) vs -> vs = (l.map fun n:Nat => (n:Int)).map (Value.int .i64)
 | [],vs,h => by have:=h.nil_inv; simpa using this
 | n :: l,vs,h => by
  obtain ⟨u,us,rfl,h1,h2⟩:=h.cons_inv
  cases h1
  rw [rvl_ints h2]; rfl
theorem ints_rvl (g:Ghost):∀ (l:List Nat),RVL g (intsV l) ((l.map fun n:Nat => (n:Int)).map (Value.int .i64))
 | [] => .nil g
 | n :: l => .cons (.int _ _) (ints_rvl g l)
theorem intsV_one:∀ l:List Nat,(intsV l).all AV.one = true
 | [] => rfl
 | n :: l => by
  show (AV.one _ && (intsV l).all AV.one) = true
  rw [intsV_one l]; rfl

section
variable {B:Nat} {w0:World} {G:Nat -> AV}

theorem c125_ok:ContractOk (EV B w0 G) 125 C125m:=by
 rintro args σ Q ⟨c,v,l,rfl,⟨hA,hs,hn⟩,hQ⟩
 by_cases hl:l = []
 ·subst hl
  have e0:sortN [] = []:=by simp [sortN]
  have key:Q (.tuple []) σ:=hQ c σ ⟨hA,by rw [e0]; exact hs,.refl c _⟩
  refine ⟨fun g w vs hRG hS hv => ?_⟩
  obtain ⟨u,us,e1,h1,h2⟩:=hv.cons_inv
  have:=h2.nil_inv
  subst this
  obtain ⟨vs⟩:=vs
  simp only at e1
  subst e1
  have hcall:∃ p cap,u = .slice p 0 cap:=by
   rcases hs.inv with ⟨rfl,_⟩ | ⟨id,n,gr,rfl,_,hml⟩
   ·cases h1; exact ⟨_,_,rfl⟩
   ·have hn0:n = 0:=by simp [intsV] at hml; omega
    subst hn0
    cases h1; exact ⟨_,_,rfl⟩
  obtain ⟨p,cap,rfl⟩:=hcall
  refine (Tryz.sort_none p cap w).mono fun e w' k => ?_
  obtain ⟨rfl,rfl⟩:=k
  exact ⟨g,σ,_,.refl g,hS,.tuple' (.nil g),key⟩
 ·rcases hs.inv with ⟨_,hnil⟩ | ⟨id,n,gr,rfl,hs',hml⟩
  ·exact absurd (List.map_eq_nil_iff.1 hnil) hl
  rw [intsV_len,Nat.mul_one] at hml
  subst hml
  refine ⟨fun g w vs hRG hS hv => ?_⟩
  obtain ⟨u,us,e1,h1,h2⟩:=hv.cons_inv
  have:=h2.nil_inv
  subst this
  obtain ⟨vs⟩:=vs
  simp only at e1
  subst e1
  have ho:=hS.objs id
  rw [hA.obj hs'] at ho
  obtain ⟨i,cu,hi,hsz,hB,hb,hle,hgr,htot,hmax,hrv,hone,hF⟩:=ho
  have hlpos:0 < l.length:=List.length_pos_iff.2 hl
  generalize hu:u = u' at h1
  cases h1 with
  | rslice _ _ _ i' a cap hi' ha hc hlen =>
   rw [hi] at hi'; cases hi'
   have ha:a = ⟨i.blk,0,none⟩:=by
    rcases ha with h | h
    ·rw [h,Nat.zero_mul]
    ·omega
   subst ha; subst hu
   have hv':=rvl_ints hrv
   rw [intsV_len] at hv'
   have hH:Go.Sort.Holds (Value.int .i64) w i.blk 0 (l.map fun n:Nat => (n:Int)).toArray:=holds_of_blockI hb (by rw [List.length_map]; exact hv')
   have hblk:i.blk < w.heap.size:=(Array.getElem?_eq_some_iff.1 hb).1
   have call:=Tryz.sort_int i.blk 0 cap (l.map fun n:Nat => (n:Int)) w hH hblk (by rw [List.length_map]; omega)
   rw [List.length_map] at call
   refine call.mono fun e w' k => ?_
   obtain ⟨rfl,m,os,rfl⟩:=k
   rw [sortN_map]
   have hheap:=heap_sortedI (w:=w) (n:=m) (os:=os) ((sortN l).map fun n:Nat => (n:Int)).toArray hb
   have hgrow:=grownBy_sortedI (w:=w) (g:=i.blk) (n:=m) (os:=os) ((sortN l).map fun n:Nat => (n:Int)).toArray
   obtain ⟨hos,htape,hout,hsize,hother⟩:=hgrow
   have hd:σ.objs id ≠ .dead:=by rw [hA.obj hs']; simp
   have hlive:=hS.live hd
   refine ⟨g,σ.set id (.cells (intsV (sortN l)) 3 1 gr),.tuple [],.refl g,?_,.tuple' (.nil g),?_⟩
   ·refine hS.turn i.blk (· = id) (.refl g) (hS.resO id i hd hi) hB hos htape hout hsize (fun b hb' hlt => hother b hlt fun e => hb' (Option.some.inj e)) (fun _ _ _ => rfl) (fun o v hv => by rw [hF] at hv; cases hv) (fun j hj => ⟨by simp [State.set,hj],fun hdj pj hpj => hS.inj j id pj i hpj hi hdj hd hj⟩) ?_ (fun a b ha hb _ _ => by rw [ha,hb]) (fun j pj hj _ hpj => by subst hj; rw [hi] at hpj; cases hpj; rfl) (fun j hj => ?_)
    ·rintro j rfl
     show ObjOk B g _ j (if j = j then _ else _)
     rw [if_pos rfl]
     refine ⟨i,_,hi,hsz,hB,hheap,?_,?_,?_,hmax,?_,intsV_one _,hF⟩
     ·rw [intsV_len,sortN_length]; rw [intsV_len] at hle; simpa [Go.Sort.putCells] using hle
     ·intro hg; rw [intsV_len,sortN_length]; have:=hgr hg; rw [intsV_len] at this; simpa [Go.Sort.putCells] using this
     ·simpa [Go.Sort.putCells] using htot
     ·rw [intsV_len]
      have:=take_putCellsI cu ((sortN l).map fun n:Nat => (n:Int)) (by rw [List.length_map,sortN_length]; rw [intsV_len] at hle; exact hle)
      rw [List.length_map] at this
      rw [this]
      exact ints_rvl g _
    ·have hj':σ.next <= j:=hj
     have hne:j ≠ id:=by omega
     exact ⟨(hS.next j hj').1,by simp [State.set,hne]; exact (hS.next j hj').2⟩
   ·exact hQ _ _ ⟨hA.set hs' _,.row id l.length gr _ hup_self (by rw [intsV_len,sortN_length,Nat.mul_one]),Same.hup (by simp)⟩
end
end Go.V
