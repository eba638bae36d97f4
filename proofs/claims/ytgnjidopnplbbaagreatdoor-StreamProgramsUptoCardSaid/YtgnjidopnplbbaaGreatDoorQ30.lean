/- A part of the proof of the statement S8 (texts brought together and shortened by a program of this work). -/
import Derived.Test.YtgnjidopnplbbaaGreatDoorQ28
import Derived.Test.YtgnjidopnplbbaaGreatDoorQ29
import Derived.Test.YtgnjidopnplbbaaGreatDoorQ15
set_option maxRecDepth 1000000
set_option linter.unusedVariables false
namespace Go.V
open Go Go.Proofs
variable (B:Nat) (w0:World) (G:Nat->AV)
def C211 (N:Nat):zJC:=fun args σ K=>∃ t:T,args=[.agg (tc t)]/\(SizeOf.sizeOf t<N/\K (.bool (zRZ t)) σ.untok)
theorem vc211 (N:Nat) (t:T) (Q:AV->zA6->Prop):(zKD [] (EV B w0 G) (hnd (EV B w0 G) zHI zMU [(169,C169),(211,C211 N)]) nL zHI (hAt [(4,2,hT),(8,2,hT),(9,4,hT)]) 211 [.agg (tc t)] zJZ Q) =
 (bcase (((T.k t):Int)==2)
 (Q (AV.bool true) zJZ)
 (bcase (((T.k t):Int)==1)
 (Q (AV.bool true) zJZ)
 (∃ t0:T,∃ s1:ByteArray,∃ n2:Int,[AV.agg (tc t),AV.str ⟨⟨[45]⟩⟩,iZ 1]=[AV.agg (tc t0),AV.str s1,iZ n2]/\bcase (zVJ t0 s1 n2)
 (((0:Int)<=0/\(0:Int)<(List.length (tcellL (T.l t)):Int))/\∃ x3:T,AV.vptr (AV.cells (List.getD (tcellL (T.l t)) 0 AV.undef))=AV.vptr (tc x3)/\∃ t4:T,[AV.agg (tc x3)]=[AV.agg (tc t4)]/\SizeOf.sizeOf t4<N/\Q (AV.bool (zRZ t4)) (Ut (Ut zJZ)))
 (∃ t3:T,∃ s4:ByteArray,∃ n5:Int,[AV.agg (tc t),AV.str ⟨⟨[43]⟩⟩,iZ 2]=[AV.agg (tc t3),AV.str s4,iZ n5]/\bcase (zVJ t3 s4 n5)
 (((0:Int)<=0/\(0:Int)<(List.length (tcellL (T.l t)):Int))/\∃ x6:T,AV.vptr (AV.cells (List.getD (tcellL (T.l t)) 0 AV.undef))=AV.vptr (tc x6)/\∃ t7:T,[AV.agg (tc x6)]=[AV.agg (tc t7)]/\SizeOf.sizeOf t7<N/\bcase (zRZ t7)
 (((0:Int)<=1/\(1:Int)<(List.length (tcellL (T.l t)):Int))/\∃ x8:T,AV.vptr (AV.cells (List.getD (tcellL (T.l t)) 1 AV.undef))=AV.vptr (tc x8)/\∃ t9:T,[AV.agg (tc x8)]=[AV.agg (tc t9)]/\SizeOf.sizeOf t9<N/\Q (AV.bool (zRZ t9)) (Ut (Ut (Ut (Ut zJZ)))))
 (Q (AV.bool false) (Ut (Ut (Ut zJZ)))))
 (∃ t6:T,∃ s7:ByteArray,∃ n8:Int,[AV.agg (tc t),AV.str ⟨⟨[45]⟩⟩,iZ 2]=[AV.agg (tc t6),AV.str s7,iZ n8]/\bcase (zVJ t6 s7 n8)
 (((0:Int)<=0/\(0:Int)<(List.length (tcellL (T.l t)):Int))/\∃ x9:T,AV.vptr (AV.cells (List.getD (tcellL (T.l t)) 0 AV.undef))=AV.vptr (tc x9)/\∃ t10:T,[AV.agg (tc x9)]=[AV.agg (tc t10)]/\SizeOf.sizeOf t10<N/\bcase (zRZ t10)
 (((0:Int)<=1/\(1:Int)<(List.length (tcellL (T.l t)):Int))/\∃ x11:T,AV.vptr (AV.cells (List.getD (tcellL (T.l t)) 1 AV.undef))=AV.vptr (tc x11)/\∃ t12:T,[AV.agg (tc x11)]=[AV.agg (tc t12)]/\SizeOf.sizeOf t12<N/\Q (AV.bool (zRZ t12)) (Ut (Ut (Ut (Ut (Ut zJZ))))))
 (Q (AV.bool false) (Ut (Ut (Ut (Ut zJZ))))))
 (∃ t9:T,∃ s10:ByteArray,∃ n11:Int,[AV.agg (tc t),AV.str ⟨⟨[42]⟩⟩,iZ 2]=[AV.agg (tc t9),AV.str s10,iZ n11]/\bcase (zVJ t9 s10 n11)
 (((0:Int)<=0/\(0:Int)<(List.length (tcellL (T.l t)):Int))/\∃ x12:T,AV.vptr (AV.cells (List.getD (tcellL (T.l t)) 0 AV.undef))=AV.vptr (tc x12)/\∃ t13:T,[AV.agg (tc x12)]=[AV.agg (tc t13)]/\SizeOf.sizeOf t13<N/\bcase (zRZ t13)
 (((0:Int)<=1/\(1:Int)<(List.length (tcellL (T.l t)):Int))/\∃ x14:T,AV.vptr (AV.cells (List.getD (tcellL (T.l t)) 1 AV.undef))=AV.vptr (tc x14)/\∃ t15:T,[AV.agg (tc x14)]=[AV.agg (tc t15)]/\SizeOf.sizeOf t15<N/\Q (AV.bool (zRZ t15)) (Ut (Ut (Ut (Ut (Ut (Ut zJZ)))))))
 (Q (AV.bool false) (Ut (Ut (Ut (Ut (Ut zJZ)))))))
 (∃ t12:T,∃ s13:ByteArray,∃ n14:Int,[AV.agg (tc t),AV.str ⟨⟨[47]⟩⟩,iZ 2]=[AV.agg (tc t12),AV.str s13,iZ n14]/\bcase (zVJ t12 s13 n14)
 (((0:Int)<=0/\(0:Int)<(List.length (tcellL (T.l t)):Int))/\∃ x15:T,AV.vptr (AV.cells (List.getD (tcellL (T.l t)) 0 AV.undef))=AV.vptr (tc x15)/\∃ t16:T,[AV.agg (tc x15)]=[AV.agg (tc t16)]/\SizeOf.sizeOf t16<N/\bcase (zRZ t16)
 (((0:Int)<=1/\(1:Int)<(List.length (tcellL (T.l t)):Int))/\∃ x17:T,AV.vptr (AV.cells (List.getD (tcellL (T.l t)) 1 AV.undef))=AV.vptr (tc x17)/\∃ t18:T,[AV.agg (tc x17)]=[AV.agg (tc t18)]/\SizeOf.sizeOf t18<N/\Q (AV.bool (zRZ t18)) (Ut (Ut (Ut (Ut (Ut (Ut (Ut zJZ))))))))
 (Q (AV.bool false) (Ut (Ut (Ut (Ut (Ut (Ut zJZ))))))))
 (∃ t15:T,∃ s16:ByteArray,∃ n17:Int,[AV.agg (tc t),AV.str ⟨⟨[109,111,100]⟩⟩,iZ 2]=[AV.agg (tc t15),AV.str s16,iZ n17]/\bcase (!(zVJ t15 s16 n17))
 (Q (AV.bool false) (Ut (Ut (Ut (Ut (Ut (Ut zJZ)))))))
 (((0:Int)<=0/\(0:Int)<(List.length (tcellL (T.l t)):Int))/\∃ x18:T,AV.vptr (AV.cells (List.getD (tcellL (T.l t)) 0 AV.undef))=AV.vptr (tc x18)/\∃ t19:T,[AV.agg (tc x18)]=[AV.agg (tc t19)]/\SizeOf.sizeOf t19<N/\bcase (zRZ t19)
 (((0:Int)<=1/\(1:Int)<(List.length (tcellL (T.l t)):Int))/\∃ x20:T,AV.vptr (AV.cells (List.getD (tcellL (T.l t)) 1 AV.undef))=AV.vptr (tc x20)/\∃ t21:T,[AV.agg (tc x20)]=[AV.agg (tc t21)]/\SizeOf.sizeOf t21<N/\Q (AV.bool (zRZ t21)) (Ut (Ut (Ut (Ut (Ut (Ut (Ut (Ut zJZ)))))))))
 (Q (AV.bool false) (Ut (Ut (Ut (Ut (Ut (Ut (Ut zJZ))))))))))))))))):=by kernel_rfl
def C187:zJC:=fun args σ K=>∃ t:T,args=[.agg (tc t)]/\K (.bool (zS4 t)) σ.untok
theorem vc187 (N:Nat) (t:T) (Q:AV->zA6->Prop):(zKD [] (EV B w0 G) (hnd (EV B w0 G) zHI zMU [(169,C169),(211,C211 N)]) nL zHI (hAt [(6,2,hT),(7,4,hT)]) 187 [.agg (tc t)] zJZ Q) =
 (∃ t0:T,∃ s1:ByteArray,∃ n2:Int,[AV.agg (tc t),AV.str ⟨⟨[116,114,117,101]⟩⟩,iZ 0]=[AV.agg (tc t0),AV.str s1,iZ n2]/\bcase (zVJ t0 s1 n2)
 (Q (AV.bool true) (Ut zJZ))
 (∃ t3:T,∃ s4:ByteArray,∃ n5:Int,[AV.agg (tc t),AV.str ⟨⟨[119,97,105,116]⟩⟩,iZ 1]=[AV.agg (tc t3),AV.str s4,iZ n5]/\bcase (zVJ t3 s4 n5)
 (Q (AV.bool true) (Ut (Ut zJZ)))
 (∃ t6:T,∃ s7:ByteArray,∃ n8:Int,[AV.agg (tc t),AV.str ⟨⟨[105,110,116,101,103,101,114]⟩⟩,iZ 1]=[AV.agg (tc t6),AV.str s7,iZ n8]/\bcase (zVJ t6 s7 n8)
 (Q (AV.bool true) (Ut (Ut (Ut zJZ))))
 (∃ t9:T,∃ s10:ByteArray,∃ n11:Int,[AV.agg (tc t),AV.str ⟨⟨[97,116,111,109]⟩⟩,iZ 1]=[AV.agg (tc t9),AV.str s10,iZ n11]/\bcase (zVJ t9 s10 n11)
 (Q (AV.bool true) (Ut (Ut (Ut (Ut zJZ)))))
 (∃ t12:T,∃ s13:ByteArray,∃ n14:Int,[AV.agg (tc t),AV.str ⟨⟨[115,116,114,105,110,103]⟩⟩,iZ 1]=[AV.agg (tc t12),AV.str s13,iZ n14]/\bcase (zVJ t12 s13 n14)
 (Q (AV.bool true) (Ut (Ut (Ut (Ut (Ut zJZ))))))
 (∃ t15:T,∃ s16:ByteArray,∃ n17:Int,[AV.agg (tc t),AV.str ⟨⟨[118,101,99,116,111,114]⟩⟩,iZ 1]=[AV.agg (tc t15),AV.str s16,iZ n17]/\bcase (zVJ t15 s16 n17)
 (Q (AV.bool true) (Ut (Ut (Ut (Ut (Ut (Ut zJZ)))))))
 (∃ t18:T,∃ s19:ByteArray,∃ n20:Int,[AV.agg (tc t),AV.str ⟨⟨[108,105,115,116]⟩⟩,iZ 1]=[AV.agg (tc t18),AV.str s19,iZ n20]/\bcase (zVJ t18 s19 n20)
 (Q (AV.bool true) (Ut (Ut (Ut (Ut (Ut (Ut (Ut zJZ))))))))
 (∃ t21:T,∃ s22:ByteArray,∃ n23:Int,[AV.agg (tc t),AV.str ⟨⟨[61,61]⟩⟩,iZ 2]=[AV.agg (tc t21),AV.str s22,iZ n23]/\bcase (zVJ t21 s22 n23)
 (Q (AV.bool true) (Ut (Ut (Ut (Ut (Ut (Ut (Ut (Ut zJZ)))))))))
 (∃ t24:T,∃ s25:ByteArray,∃ n26:Int,[AV.agg (tc t),AV.str ⟨⟨[92,61,61]⟩⟩,iZ 2]=[AV.agg (tc t24),AV.str s25,iZ n26]/\bcase (zVJ t24 s25 n26)
 (Q (AV.bool true) (Ut (Ut (Ut (Ut (Ut (Ut (Ut (Ut (Ut zJZ))))))))))
 (∃ t27:T,∃ s28:ByteArray,∃ n29:Int,[AV.agg (tc t),AV.str ⟨⟨[61,58,61]⟩⟩,iZ 2]=[AV.agg (tc t27),AV.str s28,iZ n29]/\bcase (zVJ t27 s28 n29)
 (((0:Int)<=0/\(0:Int)<(List.length (tcellL (T.l t)):Int))/\∃ x30:T,AV.vptr (AV.cells (List.getD (tcellL (T.l t)) 0 AV.undef))=AV.vptr (tc x30)/\∃ t31:T,[AV.agg (tc x30)]=[AV.agg (tc t31)]/\SizeOf.sizeOf t31<N/\bcase (zRZ t31)
 (((0:Int)<=1/\(1:Int)<(List.length (tcellL (T.l t)):Int))/\∃ x32:T,AV.vptr (AV.cells (List.getD (tcellL (T.l t)) 1 AV.undef))=AV.vptr (tc x32)/\∃ t33:T,[AV.agg (tc x32)]=[AV.agg (tc t33)]/\SizeOf.sizeOf t33<N/\Q (AV.bool (zRZ t33)) (Ut (Ut (Ut (Ut (Ut (Ut (Ut (Ut (Ut (Ut (Ut (Ut zJZ)))))))))))))
 (Q (AV.bool false) (Ut (Ut (Ut (Ut (Ut (Ut (Ut (Ut (Ut (Ut (Ut zJZ)))))))))))))
 (∃ t30:T,∃ s31:ByteArray,∃ n32:Int,[AV.agg (tc t),AV.str ⟨⟨[61,92,61]⟩⟩,iZ 2]=[AV.agg (tc t30),AV.str s31,iZ n32]/\bcase (zVJ t30 s31 n32)
 (((0:Int)<=0/\(0:Int)<(List.length (tcellL (T.l t)):Int))/\∃ x33:T,AV.vptr (AV.cells (List.getD (tcellL (T.l t)) 0 AV.undef))=AV.vptr (tc x33)/\∃ t34:T,[AV.agg (tc x33)]=[AV.agg (tc t34)]/\SizeOf.sizeOf t34<N/\bcase (zRZ t34)
 (((0:Int)<=1/\(1:Int)<(List.length (tcellL (T.l t)):Int))/\∃ x35:T,AV.vptr (AV.cells (List.getD (tcellL (T.l t)) 1 AV.undef))=AV.vptr (tc x35)/\∃ t36:T,[AV.agg (tc x35)]=[AV.agg (tc t36)]/\SizeOf.sizeOf t36<N/\Q (AV.bool (zRZ t36)) (Ut (Ut (Ut (Ut (Ut (Ut (Ut (Ut (Ut (Ut (Ut (Ut (Ut zJZ))))))))))))))
 (Q (AV.bool false) (Ut (Ut (Ut (Ut (Ut (Ut (Ut (Ut (Ut (Ut (Ut (Ut zJZ))))))))))))))
 (∃ t33:T,∃ s34:ByteArray,∃ n35:Int,[AV.agg (tc t),AV.str ⟨⟨[60]⟩⟩,iZ 2]=[AV.agg (tc t33),AV.str s34,iZ n35]/\bcase (zVJ t33 s34 n35)
 (((0:Int)<=0/\(0:Int)<(List.length (tcellL (T.l t)):Int))/\∃ x36:T,AV.vptr (AV.cells (List.getD (tcellL (T.l t)) 0 AV.undef))=AV.vptr (tc x36)/\∃ t37:T,[AV.agg (tc x36)]=[AV.agg (tc t37)]/\SizeOf.sizeOf t37<N/\bcase (zRZ t37)
 (((0:Int)<=1/\(1:Int)<(List.length (tcellL (T.l t)):Int))/\∃ x38:T,AV.vptr (AV.cells (List.getD (tcellL (T.l t)) 1 AV.undef))=AV.vptr (tc x38)/\∃ t39:T,[AV.agg (tc x38)]=[AV.agg (tc t39)]/\SizeOf.sizeOf t39<N/\Q (AV.bool (zRZ t39)) (Ut (Ut (Ut (Ut (Ut (Ut (Ut (Ut (Ut (Ut (Ut (Ut (Ut (Ut zJZ)))))))))))))))
 (Q (AV.bool false) (Ut (Ut (Ut (Ut (Ut (Ut (Ut (Ut (Ut (Ut (Ut (Ut (Ut zJZ)))))))))))))))
 (∃ t36:T,∃ s37:ByteArray,∃ n38:Int,[AV.agg (tc t),AV.str ⟨⟨[61,60]⟩⟩,iZ 2]=[AV.agg (tc t36),AV.str s37,iZ n38]/\bcase (zVJ t36 s37 n38)
 (((0:Int)<=0/\(0:Int)<(List.length (tcellL (T.l t)):Int))/\∃ x39:T,AV.vptr (AV.cells (List.getD (tcellL (T.l t)) 0 AV.undef))=AV.vptr (tc x39)/\∃ t40:T,[AV.agg (tc x39)]=[AV.agg (tc t40)]/\SizeOf.sizeOf t40<N/\bcase (zRZ t40)
 (((0:Int)<=1/\(1:Int)<(List.length (tcellL (T.l t)):Int))/\∃ x41:T,AV.vptr (AV.cells (List.getD (tcellL (T.l t)) 1 AV.undef))=AV.vptr (tc x41)/\∃ t42:T,[AV.agg (tc x41)]=[AV.agg (tc t42)]/\SizeOf.sizeOf t42<N/\Q (AV.bool (zRZ t42)) (Ut (Ut (Ut (Ut (Ut (Ut (Ut (Ut (Ut (Ut (Ut (Ut (Ut (Ut (Ut zJZ))))))))))))))))
 (Q (AV.bool false) (Ut (Ut (Ut (Ut (Ut (Ut (Ut (Ut (Ut (Ut (Ut (Ut (Ut (Ut zJZ))))))))))))))))
 (∃ t39:T,∃ s40:ByteArray,∃ n41:Int,[AV.agg (tc t),AV.str ⟨⟨[62]⟩⟩,iZ 2]=[AV.agg (tc t39),AV.str s40,iZ n41]/\bcase (zVJ t39 s40 n41)
 (((0:Int)<=0/\(0:Int)<(List.length (tcellL (T.l t)):Int))/\∃ x42:T,AV.vptr (AV.cells (List.getD (tcellL (T.l t)) 0 AV.undef))=AV.vptr (tc x42)/\∃ t43:T,[AV.agg (tc x42)]=[AV.agg (tc t43)]/\SizeOf.sizeOf t43<N/\bcase (zRZ t43)
 (((0:Int)<=1/\(1:Int)<(List.length (tcellL (T.l t)):Int))/\∃ x44:T,AV.vptr (AV.cells (List.getD (tcellL (T.l t)) 1 AV.undef))=AV.vptr (tc x44)/\∃ t45:T,[AV.agg (tc x44)]=[AV.agg (tc t45)]/\SizeOf.sizeOf t45<N/\Q (AV.bool (zRZ t45)) (Ut (Ut (Ut (Ut (Ut (Ut (Ut (Ut (Ut (Ut (Ut (Ut (Ut (Ut (Ut (Ut zJZ)))))))))))))))))
 (Q (AV.bool false) (Ut (Ut (Ut (Ut (Ut (Ut (Ut (Ut (Ut (Ut (Ut (Ut (Ut (Ut (Ut zJZ)))))))))))))))))
 (∃ t42:T,∃ s43:ByteArray,∃ n44:Int,[AV.agg (tc t),AV.str ⟨⟨[62,61]⟩⟩,iZ 2]=[AV.agg (tc t42),AV.str s43,iZ n44]/\bcase (!(zVJ t42 s43 n44))
 (Q (AV.bool false) (Ut (Ut (Ut (Ut (Ut (Ut (Ut (Ut (Ut (Ut (Ut (Ut (Ut (Ut (Ut zJZ))))))))))))))))
 (((0:Int)<=0/\(0:Int)<(List.length (tcellL (T.l t)):Int))/\∃ x45:T,AV.vptr (AV.cells (List.getD (tcellL (T.l t)) 0 AV.undef))=AV.vptr (tc x45)/\∃ t46:T,[AV.agg (tc x45)]=[AV.agg (tc t46)]/\SizeOf.sizeOf t46<N/\bcase (zRZ t46)
 (((0:Int)<=1/\(1:Int)<(List.length (tcellL (T.l t)):Int))/\∃ x47:T,AV.vptr (AV.cells (List.getD (tcellL (T.l t)) 1 AV.undef))=AV.vptr (tc x47)/\∃ t48:T,[AV.agg (tc x47)]=[AV.agg (tc t48)]/\SizeOf.sizeOf t48<N/\Q (AV.bool (zRZ t48)) (Ut (Ut (Ut (Ut (Ut (Ut (Ut (Ut (Ut (Ut (Ut (Ut (Ut (Ut (Ut (Ut (Ut zJZ))))))))))))))))))
 (Q (AV.bool false) (Ut (Ut (Ut (Ut (Ut (Ut (Ut (Ut (Ut (Ut (Ut (Ut (Ut (Ut (Ut (Ut zJZ))))))))))))))))))))))))))))))))):=by kernel_rfl
def zWP (t:T):Prop:=t.bulk<=1099511627776
def C72:zJC:=fun args σ K=>∃ t:T,args=[.agg (tc t)]/\(zWP t/\K (.bool (decide (zND t=0))) σ.untok)
theorem vc72 (N:Nat) (t:T) (Q:AV->zA6->Prop):(zKD [] (EV B w0 G) (hnd (EV B w0 G) zHI zMU [(110,zNZ N),(111,C111 N)]) nL zHI zMV 72 [.agg (tc t)] zJZ Q) =
 (∃ t0:T,[AV.agg (tc t)]=[AV.agg (tc t0)]/\(T.bulk t0<=1099511627776/\SizeOf.sizeOf t0<N)/\bcase (decide ((T.size t0:Int)<=4000))
 (bcase (decide ((T.deep t0:Int)<=600))
 (∃ t1:T,[AV.agg (tc t)]=[AV.agg (tc t1)]/\(T.bulk t1<=1099511627776/\SizeOf.sizeOf t1<N)/\Q (AV.bool (zNW t1)) (Ut (Ut zJZ)))
 (Q (AV.bool false) (Ut zJZ)))
 (Q (AV.bool false) (Ut zJZ))):=by kernel_rfl
structure zWQ where
 n:Nat
 i:Nat
def C139:zJC:=fun args σ K=>∃ l:List T,args=[slV l]/\((l.length<=1000000/\∀ x∈l,zWP x)/\K (.bool (zS5 l)) σ.untok)
def zWR (l:List T) (I:zWQ->Prop):LS zWQ where
 F y:=[(0,.v (slV l)),(3,.v (iZ (y.n:Int))),(4,.v (iZ (y.i:Int)))]
 FL _:=[]
 S _:=zJZ
 I:=I
 μ y:=l.length - y.i
 Ex y e a σ:=match e with
  | .exit 0=>¬ (y.i<l.length)/\atF a [(3,.v (iZ (y.n:Int)))] [] True
  | .ret=>zS5 l=false/\atF a [(2,.v (.bool false))] [] True
  | _=>False
theorem zWS:zKE Tryz.prog [] 139=[.loop (lB 139 0)]:=by kernel_rfl
def N139:zIE:=hAt [(5,2,hT),(8,2,hT)]
theorem vc139l (N:Nat) (l:List T) (I:zWQ->Prop) (n i:Nat):(wpX [] (EV B w0 G) (hnd (EV B w0 G) zHI zMU [(72,C72),(110,zNZ N)]) nL (zHI 139) N139 (lB 139 0) ((zWR l I).post ⟨n,i⟩) (frm ((zWR l I).F ⟨n,i⟩) []) zJZ) =
 (bcase (decide ((zWQ.i (zWQ.mk n i):Int)<(List.length (tcellL l):Int)))
 (((0:Int)<=(zWQ.i (zWQ.mk n i):Int)/\(zWQ.i (zWQ.mk n i):Int)<(List.length (tcellL l):Int))/\∃ x0:T,AV.vptr (AV.cells (List.getD (tcellL l) (Int.toNat (↑(zWQ.i (zWQ.mk n i)):Int)) AV.undef))=AV.vptr (tc x0)/\∃ t1:T,[AV.agg (tc x0)]=[AV.agg (tc t1)]/\zWP t1/\bcase (!(decide (((zND t1):Int)=0)))
 (zS5 l=false/\Rf (TV.v (AV.bool false))/\True)
 (((0:Int)<=(zWQ.i (zWQ.mk n i):Int)/\(zWQ.i (zWQ.mk n i):Int)<(List.length (tcellL l):Int))/\∃ x2:T,AV.vptr (AV.cells (List.getD (tcellL l) (Int.toNat (↑(zWQ.i (zWQ.mk n i)):Int)) AV.undef))=AV.vptr (tc x2)/\∃ t3:T,[AV.agg (tc x2)]=[AV.agg (tc t3)]/\(T.bulk t3<=1099511627776/\SizeOf.sizeOf t3<N)/\∃ x'4:zWQ,(I x'4/\LS.μ (zWR l I) x'4<LS.μ (zWR l I) (zWQ.mk n i))/\Rf (TV.v (sT l))/\TV.v (iZ (IntKind.wrap .i64 ((zWQ.n (zWQ.mk n i):Int)+(T.size t3:Int))))=TV.v (iZ (zWQ.n x'4:Int))/\TV.v (iZ (IntKind.wrap .i64 ((zWQ.i (zWQ.mk n i):Int)+1)))=TV.v (iZ (zWQ.i x'4:Int))/\zA6.Le ((zWR l I).3 x'4) (Ut (Ut zJZ))))
 (((zWQ.i (zWQ.mk n i)<List.length l)->False)/\Rf (TV.v (iZ (zWQ.n (zWQ.mk n i):Int)))/\True)):=by kernel_rfl
def T139 (l:List T) (I:zWQ->Prop) (R:Nat->Prop):zFV:=fun _ Q a σ=>(I ⟨0,0⟩/\atF a ((zWR l I).F ⟨0,0⟩) [] (zJZ.Le σ))/\((∀ n:Nat,R n->∀ σ':zA6,Q (.exit 0) (frm [(3,.v (iZ (n:Int)))] []) σ')/\(zS5 l=false->∀ σ':zA6,Q .ret (frm [(2,.v (.bool false))] []) σ'))
theorem vc139 (N:Nat) (l:List T) (I:zWQ->Prop) (R:Nat->Prop) (Q:AV->zA6->Prop):(zKD [] (EV B w0 G) (hnd (EV B w0 G) zHI zMU [(72,C72),(110,zNZ N)]) (T139 l I R) zHI N139 139 [slV l] zJZ Q) =
 ((I ({ n:=0,i:=0 })/\Rf (TV.v (sT l))/\Rf (TV.v (iZ 0))/\Rf (TV.v (iZ 0))/\zA6.Le zJZ zJZ)/\(∀ n0:Nat,((R n0)->(∀ σ'1:zA6,Q (AV.bool (decide ((n0:Int)<=4000))) σ'1)))/\((zS5 l=false)->(∀ σ'0:zA6,Q (AV.bool false) σ'0))):=by kernel_rfl
def C140:zJC:=fun args σ K=>∃ l:List T,args=[slV l]/\((l.length<=1000000/\(∀ x∈l,zND x=0)/\∀ x∈l,zWP x)/\K (iZ (sizeL l:Int)) σ.untok)
def zWT (l:List T) (I:zWQ->Prop):LS zWQ where
 F y:=[(0,.v (slV l)),(3,.v (iZ (y.n:Int))),(4,.v (iZ (y.i:Int)))]
 FL _:=[]
 S _:=zJZ
 I:=I
 μ y:=l.length - y.i
 Ex y e a σ:=match e with
  | .exit 0=>¬ (y.i<l.length)/\atF a [(3,.v (iZ (y.n:Int)))] [] True
  | _=>False
theorem zWU:zKE Tryz.prog [] 140=[.loop (lB 140 0)]:=by kernel_rfl
def N140:zIE:=hAt [(5,2,hT)]
theorem vc140l (N:Nat) (l:List T) (I:zWQ->Prop) (n i:Nat):(wpX [] (EV B w0 G) (hnd (EV B w0 G) zHI zMU [(110,zNZ N)]) nL (zHI 140) N140 (lB 140 0) ((zWT l I).post ⟨n,i⟩) (frm ((zWT l I).F ⟨n,i⟩) []) zJZ) =
 (bcase (decide ((zWQ.i (zWQ.mk n i):Int)<(List.length (tcellL l):Int)))
 (((0:Int)<=(zWQ.i (zWQ.mk n i):Int)/\(zWQ.i (zWQ.mk n i):Int)<(List.length (tcellL l):Int))/\∃ x0:T,AV.vptr (AV.cells (List.getD (tcellL l) (Int.toNat (↑(zWQ.i (zWQ.mk n i)):Int)) AV.undef))=AV.vptr (tc x0)/\∃ t1:T,[AV.agg (tc x0)]=[AV.agg (tc t1)]/\(T.bulk t1<=1099511627776/\SizeOf.sizeOf t1<N)/\∃ x'2:zWQ,(I x'2/\LS.μ (zWT l I) x'2<LS.μ (zWT l I) (zWQ.mk n i))/\Rf (TV.v (sT l))/\TV.v (iZ (IntKind.wrap .i64 ((zWQ.n (zWQ.mk n i):Int)+(T.size t1:Int))))=TV.v (iZ (zWQ.n x'2:Int))/\TV.v (iZ (IntKind.wrap .i64 ((zWQ.i (zWQ.mk n i):Int)+1)))=TV.v (iZ (zWQ.i x'2:Int))/\zA6.Le ((zWT l I).3 x'2) (Ut zJZ))
 (((zWQ.i (zWQ.mk n i)<List.length l)->False)/\Rf (TV.v (iZ (zWQ.n (zWQ.mk n i):Int)))/\True)):=by kernel_rfl
def T140 (l:List T) (I:zWQ->Prop) (R:Nat->Prop):zFV:=fun _ Q a σ=>(I ⟨0,0⟩/\atF a ((zWT l I).F ⟨0,0⟩) [] (zJZ.Le σ))/\(∀ n:Nat,R n->∀ σ':zA6,Q (.exit 0) (frm [(3,.v (iZ (n:Int)))] []) σ')
theorem vc140 (N:Nat) (l:List T) (I:zWQ->Prop) (R:Nat->Prop) (Q:AV->zA6->Prop):(zKD [] (EV B w0 G) (hnd (EV B w0 G) zHI zMU [(110,zNZ N)]) (T140 l I R) zHI N140 140 [slV l] zJZ Q) =
 ((I ({ n:=0,i:=0 })/\Rf (TV.v (sT l))/\Rf (TV.v (iZ 0))/\Rf (TV.v (iZ 0))/\zA6.Le zJZ zJZ)/\(∀ n0:Nat,((R n0)->(∀ σ'1:zA6,Q (iZ (n0:Int)) σ'1)))):=by kernel_rfl
def C159:zJC:=fun args σ K=>∃ c:Cl,args=[clV c]/\(zW1 c/\K (slV c.all) σ.untok)
def N159:zIE:=hAt [(2,3,hEl 37 4),(3,3,hEl 37 4),(4,3,hEl 37 4)]
theorem vc159 (c:Cl) (Q:AV->zA6->Prop):(zKD [] (EV B w0 G) (H0 (EV B w0 G)) nL zHI N159 159 [clV c] zJZ Q) =
 (bcase (List.isEmpty (tcellL (Cl.head c)))
 (bcase (List.isEmpty (tcellL (Cl.guard c)))
 (bcase (List.isEmpty (tcellL (Cl.body c)))
 (Q AV.nilslice zJZ)
 (((((List.length (tcellL (Cl.body c)))*56):Nat)<=140737488355328/\((List.length (tcellL (Cl.body c))):Nat)<=4611686018427387904)/\Q (AV.rslice 0 0 (List.length (tcellL (Cl.body c)))) (zA6.new zJZ (zA5.cells (zA0 (tcellL (Cl.body c))) 37 4 true))))
 (((((List.length (tcellL (Cl.guard c)))*56):Nat)<=140737488355328/\((List.length (tcellL (Cl.guard c))):Nat)<=4611686018427387904)/\bcase (List.isEmpty (tcellL (Cl.body c)))
 (Q (AV.rslice 0 0 (List.length (tcellL (Cl.guard c)))) (zA6.new zJZ (zA5.cells (zA0 (tcellL (Cl.guard c))) 37 4 true)))
 (∃ a0:OE,zA5.cells (zA0 (tcellL (Cl.guard c))) 37 4 true=zA5.cells (OE.cs a0) 37 4 (OE.g a0)/\((0:Nat)=0/\(((((List.length (tcellL (Cl.guard c)))+(List.length (tcellL (Cl.body c))))*56):Nat)<=140737488355328/\(((List.length (tcellL (Cl.guard c)))+(List.length (tcellL (Cl.body c)))):Nat)<=4611686018427387904)/\(((List.length (tcellL (Cl.guard c)))*4):Nat)<=List.length (OE.cs a0))/\Q (AV.rslice 1 0 ((List.length (tcellL (Cl.guard c)))+(List.length (tcellL (Cl.body c))))) (zA6.new (zA6.set (zA6.new zJZ (zA5.cells (zA0 (tcellL (Cl.guard c))) 37 4 true)) 0 zA5.dead) (zA5.cells ((List.take ((List.length (tcellL (Cl.guard c)))*4) (OE.cs a0))++(zA0 (tcellL (Cl.body c)))) 37 4 true)))))
 (((((List.length (tcellL (Cl.head c)))*56):Nat)<=140737488355328/\((List.length (tcellL (Cl.head c))):Nat)<=4611686018427387904)/\bcase (List.isEmpty (tcellL (Cl.guard c)))
 (bcase (List.isEmpty (tcellL (Cl.body c)))
 (Q (AV.rslice 0 0 (List.length (tcellL (Cl.head c)))) (zA6.new zJZ (zA5.cells (zA0 (tcellL (Cl.head c))) 37 4 true)))
 (∃ a0:OE,zA5.cells (zA0 (tcellL (Cl.head c))) 37 4 true=zA5.cells (OE.cs a0) 37 4 (OE.g a0)/\((0:Nat)=0/\(((((List.length (tcellL (Cl.head c)))+(List.length (tcellL (Cl.body c))))*56):Nat)<=140737488355328/\(((List.length (tcellL (Cl.head c)))+(List.length (tcellL (Cl.body c)))):Nat)<=4611686018427387904)/\(((List.length (tcellL (Cl.head c)))*4):Nat)<=List.length (OE.cs a0))/\Q (AV.rslice 1 0 ((List.length (tcellL (Cl.head c)))+(List.length (tcellL (Cl.body c))))) (zA6.new (zA6.set (zA6.new zJZ (zA5.cells (zA0 (tcellL (Cl.head c))) 37 4 true)) 0 zA5.dead) (zA5.cells ((List.take ((List.length (tcellL (Cl.head c)))*4) (OE.cs a0))++(zA0 (tcellL (Cl.body c)))) 37 4 true))))
 (∃ a0:OE,zA5.cells (zA0 (tcellL (Cl.head c))) 37 4 true=zA5.cells (OE.cs a0) 37 4 (OE.g a0)/\((0:Nat)=0/\(((((List.length (tcellL (Cl.head c)))+(List.length (tcellL (Cl.guard c))))*56):Nat)<=140737488355328/\(((List.length (tcellL (Cl.head c)))+(List.length (tcellL (Cl.guard c)))):Nat)<=4611686018427387904)/\(((List.length (tcellL (Cl.head c)))*4):Nat)<=List.length (OE.cs a0))/\bcase (List.isEmpty (tcellL (Cl.body c)))
 (Q (AV.rslice 1 0 ((List.length (tcellL (Cl.head c)))+(List.length (tcellL (Cl.guard c))))) (zA6.new (zA6.set (zA6.new zJZ (zA5.cells (zA0 (tcellL (Cl.head c))) 37 4 true)) 0 zA5.dead) (zA5.cells ((List.take ((List.length (tcellL (Cl.head c)))*4) (OE.cs a0))++(zA0 (tcellL (Cl.guard c)))) 37 4 true)))
 (∃ a1:OE,zA5.cells ((List.take ((List.length (tcellL (Cl.head c)))*4) (OE.cs a0))++(zA0 (tcellL (Cl.guard c)))) 37 4 true=zA5.cells (OE.cs a1) 37 4 (OE.g a1)/\((0:Nat)=0/\((((((List.length (tcellL (Cl.head c)))+(List.length (tcellL (Cl.guard c))))+(List.length (tcellL (Cl.body c))))*56):Nat)<=140737488355328/\((((List.length (tcellL (Cl.head c)))+(List.length (tcellL (Cl.guard c))))+(List.length (tcellL (Cl.body c)))):Nat)<=4611686018427387904)/\((((List.length (tcellL (Cl.head c)))+(List.length (tcellL (Cl.guard c))))*4):Nat)<=List.length (OE.cs a1))/\Q (AV.rslice 2 0 (((List.length (tcellL (Cl.head c)))+(List.length (tcellL (Cl.guard c))))+(List.length (tcellL (Cl.body c))))) (zA6.new (zA6.set (zA6.new (zA6.set (zA6.new zJZ (zA5.cells (zA0 (tcellL (Cl.head c))) 37 4 true)) 0 zA5.dead) (zA5.cells ((List.take ((List.length (tcellL (Cl.head c)))*4) (OE.cs a0))++(zA0 (tcellL (Cl.guard c)))) 37 4 true)) 1 zA5.dead) (zA5.cells ((List.take (((List.length (tcellL (Cl.head c)))+(List.length (tcellL (Cl.guard c))))*4) (OE.cs a1))++(zA0 (tcellL (Cl.body c)))) 37 4 true)))))):=by kernel_rfl
def C143:zJC:=fun args σ K=>∃ t:T,args=[.agg (tc t)]/\(((zRC t).1=1->K (.tuple [zRJ (zRC t).2.2.s ((zRC t).2.2.l.length:Int),.bool true]) σ.untok)/\((zRC t).1≠1->K (.tuple [zRJ bNone 0,.bool false]) σ.untok))
theorem vc143 (t:T) (Q:AV->zA6->Prop):(zKD [] (EV B w0 G) (hnd (EV B w0 G) zHI zMU [(142,C142),(171,C171)]) nL zHI zMV 143 [.agg (tc t)] zJZ Q) =
 (∃ t0:T,[AV.agg (tc t)]=[AV.agg (tc t0)]/\bcase (((Prod.fst (zRC t0)):Int) != 1)
 (Q (AV.tuple [AV.agg [AV.str ⟨⟨[]⟩⟩,iZ 0],AV.bool false]) (Ut zJZ))
 (∃ t1:T,[AV.agg (tc (Prod.snd (Prod.snd (zRC t0))))]=[AV.agg (tc t1)]/\((zRP t1=true)->(Q (AV.tuple [AV.agg [AV.str (T.s t1),iZ (List.length (T.l t1):Int)],AV.bool true]) (Ut (Ut zJZ))))/\((zRP t1=false)->(Q (AV.tuple [AV.agg [AV.str ⟨⟨[]⟩⟩,iZ 0],AV.bool false]) (Ut (Ut zJZ)))))):=by kernel_rfl
structure zWV (p:List Pr) (i:Nat) (s:ByteArray) (n:Int):Prop where
 at_:∃ q,p[i]? = some q/\q.name=s/\q.arity=n
 none:zR9 ((p.take i).map Pr.sym) s n=false
def C144:zJC:=fun args σ K=>∃ (p:List Pr) (s:ByteArray) (n:Int),args=[zSI p,zRJ s n]/\(p.length<=1000000/\((zR9 (p.map Pr.sym) s n=false->K (iZ (-1)) σ.untok)/\∀ i:Nat,zWV p i s n->K (iZ (i:Int)) σ.untok))
def zWW (p:List Pr) (s:ByteArray) (n:Int):LS Nat where
 F i:=[(2,.l 2 0),(3,.l 3 0),(5,.v (iZ (i:Int)))]
 FL _:=[(2,[zW0 p]),(3,[.str s,iZ n])]
 S _:=zJZ
 I i:=i<=p.length/\zR9 ((p.take i).map Pr.sym) s n=false
 μ i:=p.length - i
 Ex i e a σ:=match e with
  | .exit 0=>¬ (i<p.length)/\atF a [] [] True
  | .ret=>zWV p i s n/\atF a [(4,.v (iZ (i:Int)))] [] True
  | _=>False
def N144:zIE:=hAt [(4,3,hPr),(4,13,hPr)]
theorem zWX:zKE Tryz.prog [] 144=[.loop (lB 144 0)]:=by kernel_rfl
theorem vc144l (p:List Pr) (s:ByteArray) (n:Int) (i:Nat):(wpX [] (EV B w0 G) (H0 (EV B w0 G)) nL (zHI 144) N144 (lB 144 0) ((zWW p s n).post i) (frm ((zWW p s n).F i) ((zWW p s n).FL i)) zJZ) =
 (bcase (decide ((i:Int)<(List.length (List.map prV p):Int)))
 (((0:Int)<=(i:Int)/\(i:Int)<(List.length (List.map prV p):Int))/\∃ x0:Pr,AV.vptr (AV.cells (List.getD (List.map prV p) (Int.toNat (↑i:Int)) AV.undef))=AV.vptr [AV.str (Pr.name x0),iZ (Pr.arity x0),AV.slice 5 (List.map clV (Pr.cls x0)) Cap.any]/\bcase (zAI (Pr.name x0) s)
 (((0:Int)<=(i:Int)/\(i:Int)<(List.length (List.map prV p):Int))/\∃ x1:Pr,AV.vptr (AV.cells (List.getD (List.map prV p) (Int.toNat (↑i:Int)) AV.undef))=AV.vptr [AV.str (Pr.name x1),iZ (Pr.arity x1),AV.slice 5 (List.map clV (Pr.cls x1)) Cap.any]/\bcase (((Pr.arity x1):Int)==n)
 (zWV p i s n/\Rf (TV.v (iZ (i:Int)))/\True)
 (∃ x'2:Nat,((x'2<=List.length p/\zR9 (List.map Pr.sym (List.take x'2 p)) s n=false)/\LS.μ (zWW p s n) x'2<LS.μ (zWW p s n) i)/\Rf (TV.l 2 0)/\Rf (TV.l 3 0)/\TV.v (iZ (IntKind.wrap .i64 ((i:Int)+1)))=TV.v (iZ (x'2:Int))/\Rf [AV.slice 3 (List.map prV p) Cap.any]/\Rf [AV.str s,iZ n]/\zA6.Le ((zWW p s n).3 x'2) zJZ))
 (∃ x'1:Nat,((x'1<=List.length p/\zR9 (List.map Pr.sym (List.take x'1 p)) s n=false)/\LS.μ (zWW p s n) x'1<LS.μ (zWW p s n) i)/\Rf (TV.l 2 0)/\Rf (TV.l 3 0)/\TV.v (iZ (IntKind.wrap .i64 ((i:Int)+1)))=TV.v (iZ (x'1:Int))/\Rf [AV.slice 3 (List.map prV p) Cap.any]/\Rf [AV.str s,iZ n]/\zA6.Le ((zWW p s n).3 x'1) zJZ))
 (((i<List.length p)->False)/\True)):=by kernel_rfl
def T144 (p:List Pr) (s:ByteArray) (n:Int):zFV:=fun _ Q a σ=>atF a ((zWW p s n).F 0) ((zWW p s n).FL 0) (zJZ.Le σ)/\((zR9 (p.map Pr.sym) s n=false->∀ σ':zA6,Q (.exit 0) (frm [] []) σ')/\(∀ i:Nat,zWV p i s n->∀ σ':zA6,Q .ret (frm [(4,.v (iZ (i:Int)))] []) σ'))
theorem vc144 (p:List Pr) (s:ByteArray) (n:Int) (Q:AV->zA6->Prop):(zKD [] (EV B w0 G) (H0 (EV B w0 G)) (T144 p s n) zHI N144 144 [zSI p,zRJ s n] zJZ Q) =
 ((Rf (TV.l 2 0)/\Rf (TV.l 3 0)/\Rf (TV.v (iZ 0))/\Rf [AV.slice 3 (List.map prV p) Cap.any]/\Rf [AV.str s,iZ n]/\zA6.Le zJZ zJZ)/\((zR9 (List.map Pr.sym p) s n=false)->(∀ σ'0:zA6,Q (iZ (-1)) σ'0))/\(∀ i0:Nat,((zWV p i0 s n)->(∀ σ'1:zA6,Q (iZ (i0:Int)) σ'1)))):=by kernel_rfl
def C145n:zJC:=fun args σ K=>∃ (s:ByteArray) (n:Int),args=[.nilslice,zRJ s n]/\K (.bool false) σ.untok
def C124:zJC:=fun args σ K=>∃ (p:List Pr) (l:List T),args=[zSI p,slV l,.nilslice]/\((p.length<=1000000/\l.length<=1000000)/\K (.bool ((zSD l).all fun s=>zR9 (p.map Pr.sym) s.1 s.2)) σ.untok)
def okC (p:List Pr) (l:List T):Bool:=(zSD l).all fun s=>zR9 (p.map Pr.sym) s.1 s.2
def zWY (p:List Pr) (l:List T):LS Nat where
 F i:=[(1,.v (slV l)),(2,.v .nilslice),(3,.l 3 0),(7,.v (iZ (i:Int)))]
 FL _:=[(3,[zW0 p])]
 S _:=zJZ
 I i:=i<=l.length/\okC p (l.take i)=true
 μ i:=l.length - i
 Ex i e a σ:=match e with
  | .exit 0=>¬ (i<l.length)/\atF a [] [] True
  | .ret=>okC p l=false/\atF a [(6,.v (.bool false))] [] True
  | _=>False
def N124:zIE:=hAt [(4,2,hT)]
theorem zWZ:zKE Tryz.prog [] 124=[.loop (lB 124 0)]:=by kernel_rfl
def H124 (E:Env):zDY:=hnd E zHI zMU [(143,C143),(144,C144),(145,C145n)]
theorem vc124l (p:List Pr) (l:List T) (i:Nat):(wpX [] (EV B w0 G) (H124 (EV B w0 G)) nL (zHI 124) N124 (lB 124 0) ((zWY p l).post i) (frm ((zWY p l).F i) ((zWY p l).FL i)) zJZ) =
 (bcase (decide ((i:Int)<(List.length (tcellL l):Int)))
 (((0:Int)<=(i:Int)/\(i:Int)<(List.length (tcellL l):Int))/\∃ x0:T,AV.vptr (AV.cells (List.getD (tcellL l) (Int.toNat (↑i:Int)) AV.undef))=AV.vptr (tc x0)/\∃ t1:T,[AV.agg (tc x0)]=[AV.agg (tc t1)]/\((((Prod.fst (zRC t1)):Int)=1)->(∃ p2:List Pr,∃ s3:ByteArray,∃ n4:Int,[AV.agg [AV.slice 3 (List.map prV p) Cap.any],AV.agg [AV.str (T.s (Prod.snd (Prod.snd (zRC t1)))),iZ (List.length (T.l (Prod.snd (Prod.snd (zRC t1)))):Int)]]=[AV.agg [AV.slice 3 (List.map prV p2) Cap.any],AV.agg [AV.str s3,iZ n4]]/\List.length p2<=1000000/\((zR9 (List.map Pr.sym p2) s3 n4=false)->(∃ s5:ByteArray,∃ n6:Int,[AV.nilslice,AV.agg [AV.str (T.s (Prod.snd (Prod.snd (zRC t1)))),iZ (List.length (T.l (Prod.snd (Prod.snd (zRC t1)))):Int)]]=[AV.nilslice,AV.agg [AV.str s5,iZ n6]]/\okC p l=false/\Rf (TV.v (AV.bool false))/\True))/\(∀ i5:Nat,((zWV p2 i5 s3 n4)->(∃ x'6:Nat,((x'6<=List.length l/\okC p (List.take x'6 l)=true)/\LS.μ (zWY p l) x'6<LS.μ (zWY p l) i)/\Rf (TV.v (sT l))/\Rf (TV.v AV.nilslice)/\Rf (TV.l 3 0)/\TV.v (iZ (IntKind.wrap .i64 ((i:Int)+1)))=TV.v (iZ (x'6:Int))/\Rf [AV.slice 3 (List.map prV p) Cap.any]/\zA6.Le ((zWY p l).3 x'6) (Ut (Ut zJZ)))))))/\((((Prod.fst (zRC t1)):Int)≠1)->(∃ x'2:Nat,((x'2<=List.length l/\okC p (List.take x'2 l)=true)/\LS.μ (zWY p l) x'2<LS.μ (zWY p l) i)/\Rf (TV.v (sT l))/\Rf (TV.v AV.nilslice)/\Rf (TV.l 3 0)/\TV.v (iZ (IntKind.wrap .i64 ((i:Int)+1)))=TV.v (iZ (x'2:Int))/\Rf [AV.slice 3 (List.map prV p) Cap.any]/\zA6.Le ((zWY p l).3 x'2) (Ut zJZ))))
 (((i<List.length l)->False)/\True)):=by kernel_rfl
def T124 (p:List Pr) (l:List T):zFV:=fun _ Q a σ=>atF a ((zWY p l).F 0) ((zWY p l).FL 0) (zJZ.Le σ)/\((okC p l=true->∀ σ':zA6,Q (.exit 0) (frm [] []) σ')/\(okC p l=false->∀ σ':zA6,Q .ret (frm [(6,.v (.bool false))] []) σ'))
theorem vc124 (p:List Pr) (l:List T) (Q:AV->zA6->Prop):(zKD [] (EV B w0 G) (H124 (EV B w0 G)) (T124 p l) zHI N124 124 [zSI p,slV l,.nilslice] zJZ Q) =
 ((Rf (TV.v (sT l))/\Rf (TV.v AV.nilslice)/\Rf (TV.l 3 0)/\Rf (TV.v (iZ 0))/\Rf [AV.slice 3 (List.map prV p) Cap.any]/\zA6.Le zJZ zJZ)/\((okC p l=true)->(∀ σ'0:zA6,Q (AV.bool true) σ'0))/\((okC p l=false)->(∀ σ'0:zA6,Q (AV.bool false) σ'0))):=by kernel_rfl
theorem vc145n (s:ByteArray) (n:Int) (Q:AV->zA6->Prop):(zKD [] (EV B w0 G) (H0 (EV B w0 G)) (zJA (EV B w0 G) (H0 (EV B w0 G)) 145 none (zJ8 Tryz.prog 145) (zHI 145) zMV 3) zHI zMV 145 [.nilslice,zRJ s n] zJZ Q) =
 (Q (AV.bool false) zJZ):=by kernel_rfl
end Go.V
set_option linter.unusedSimpArgs false
set_option linter.unusedSectionVars false
namespace Go.V
open Go Go.Proofs

theorem zX0 {α:Type} (b:Bool) (f:α->Bool):∀ l:List α,(b&&l.any f)=l.any fun x=>b&&f x
 | []=>by simp
 | x :: l=>by rw [List.any_cons,List.any_cons,Bool.and_or_distrib_left,zX0 b f l]
theorem zX1 (t:T) (l:List Sym):(decide (t.k=5)&&zR9 l t.s t.l.length)=l.any fun x=>isF t x.1 x.2:=by
 unfold zR9 isF
 rw [zX0]
theorem zX2 (t:T):zS4 t=(isA t zR8 || ((zS2.any fun x=>isF t x.1 x.2) || ((zS3.any fun x=>isF t x.1 x.2)&&t.l.all zRZ))):=by
 unfold zS4
 rw [Bool.and_or_distrib_left,zX1,<-Bool.and_assoc,zX1]
theorem any_of {t:T} {L:List Sym} {s:ByteArray} {n:Int} (hm:(s,n)∈L) (hn:n≠0) (h:zVJ t s n=true):(L.any fun x=>isF t x.1 x.2)=true:=by
 unfold zVJ at h
 rw [if_neg hn] at h
 exact List.any_eq_true.2 ⟨(s,n),hm,h⟩
theorem zX3 {t:T} {s:ByteArray} {n:Int} (hn:n≠0) (h:zVJ t s n=true):(t.l.length:Int)=n:=by
 unfold zVJ isF at h
 rw [if_neg hn] at h
 simp only [Bool.and_eq_true,decide_eq_true_eq] at h
 exact h.2.2
theorem all_one {P:T->Bool} {l:List T} (h:l.length=1):l.all P=P l[0]:=by
 match l,h with
 | [a],_=>simp
theorem zX4 {N:Nat} {t:T} {Q:AV->zA6->Prop} {n:Int} {s:ByteArray} (h:zVJ t s 2=true) (hN:SizeOf.sizeOf t.l<N) (hQ:∀ σ',Q (.bool (t.l.all zRZ)) σ') (σ1 σ2:zA6) :
  ((((0:Int)<=0)/\ ((0:Int)<(((List.length (tcellL (T.l t))):Nat):Int)))/\
 (∃ x6:T,(((AV.vptr (AV.cells (List.getD (tcellL (T.l t)) 0 AV.undef)))=(AV.vptr [(iZ (T.k x6)),(iZ (T.n x6)),(AV.str (T.s x6)),(AV.slice 4 (tcellL (T.l x6)) Cap.any)]))/\
 (∃ t7:T,(([(AV.agg [(iZ (T.k x6)),(iZ (T.n x6)),(AV.str (T.s x6)),(AV.slice 4 (tcellL (T.l x6)) Cap.any)])]=[(AV.agg [(iZ (T.k t7)),(iZ (T.n t7)),(AV.str (T.s t7)),(AV.slice 4 (tcellL (T.l t7)) Cap.any)])])/\
 (((SizeOf.sizeOf t7:Nat)<(N))/\
 (bcase (zRZ t7)
 ((((0:Int)<=1)/\
 ((1:Int)<(((List.length (tcellL (T.l t))):Nat):Int)))/\
 (∃ x8:T,(((AV.vptr (AV.cells (List.getD (tcellL (T.l t)) 1 AV.undef)))=(AV.vptr [(iZ (T.k x8)),(iZ (T.n x8)),(AV.str (T.s x8)),(AV.slice 4 (tcellL (T.l x8)) Cap.any)]))/\
 (∃ t9:T,(([(AV.agg [(iZ (T.k x8)),(iZ (T.n x8)),(AV.str (T.s x8)),(AV.slice 4 (tcellL (T.l x8)) Cap.any)])]=[(AV.agg [(iZ (T.k t9)),(iZ (T.n t9)),(AV.str (T.s t9)),(AV.slice 4 (tcellL (T.l t9)) Cap.any)])])/\
 (((SizeOf.sizeOf t9:Nat)<(N))/\
 (Q (AV.bool (zRZ t9)) σ1)))))))
 (Q (AV.bool false) σ2)))))))):=by
  have hl:t.l.length=2:=by have:=zX3 (by decide) h; omega
  have h0:=List.sizeOf_lt_of_mem (List.getElem_mem (l:=t.l) (n:=0) (by omega))
  have h1:=List.sizeOf_lt_of_mem (List.getElem_mem (l:=t.l) (n:=1) (by omega))
  rw [zTU hl] at hQ
  rw [zMH]
  refine ⟨⟨by omega,by omega⟩,t.l[0],zNA (by omega),t.l[0],rfl,by omega,zE2 (fun e=>⟨⟨by omega,by omega⟩,t.l[1],zNA (by omega),t.l[1],rfl,by omega,?_⟩) (fun e => ?_)⟩
  ·rw [e,Bool.true_and] at hQ; exact hQ _
  ·rw [e,Bool.false_and] at hQ; exact hQ _

theorem zX5 {t:T} (h:zVJ t zRX 1=true):zRZ t=t.l.all zRZ:=by
 have hl:=zX3 (by decide) h
 unfold zVJ isF at h
 rw [if_neg (by decide)] at h
 simp only [Bool.and_eq_true,decide_eq_true_eq] at h
 rw [zS1,h.1,zRD.1 h.2.1]
 have e1:(zRY.any fun x=>zAI zRX x)=true:=by kernel_rfl
 have e2:zAI zRX zRX=true:=zRD.2 rfl
 have e3:t.l.length=1:=by omega
 rw [e1,e2,e3]; rfl
theorem zX6 {t:T} {s:ByteArray} (hs:s∈zRY) (h:zVJ t s 2=true):zRZ t=t.l.all zRZ:=by
 have hl:=zX3 (by decide) h
 unfold zVJ isF at h
 rw [if_neg (by decide)] at h
 simp only [Bool.and_eq_true,decide_eq_true_eq] at h
 rw [zS1,h.1,zRD.1 h.2.1]
 have e1:(zRY.any fun x=>zAI s x)=true:=List.any_eq_true.2 ⟨s,hs,zRD.2 rfl⟩
 have e3:t.l.length=2:=by omega
 rw [e1,e3]; rfl
theorem exprS_no {t:T} (h2:t.k≠2) (h1:t.k≠1) (h0:zVJ t zRX 1=false) (h:∀ s∈zRY,zVJ t s 2=false):zRZ t=false:=by
 rw [zS1,if_neg (by simp [h1,h2])]
 by_cases h5:t.k=5
 ·cases e:(zRY.any fun x=>zAI t.s x) with
  | false=>simp
  | true =>
   obtain ⟨s,hs,e⟩:=List.any_eq_true.1 e
   have hf:=h s hs
   unfold zVJ isF at hf h0
   rw [if_neg (by decide),h5,e] at hf
   rw [if_neg (by decide),h5] at h0
   have hl2:decide (t.l.length=2)=false:=by
    rw [decide_eq_false_iff_not]
    intro hl
    rw [hl] at hf; cases hf
   have hl1:(decide (t.l.length=1)&&zAI t.s zRX)=false:=by
    cases e1:zAI t.s zRX with
    | false=>simp
    | true =>
     rw [e1] at h0
     rw [Bool.and_true,decide_eq_false_iff_not]
     intro hl
     rw [hl] at h0; cases h0
   rw [hl2,hl1]; simp
 ·rw [decide_eq_false h5]; rfl

section
variable {B:Nat} {w0:World} {G:Nat->AV}
variable (hG:∀ i,zJV (G i))
include hG
theorem zX7:∀ N,zJD (EV B w0 G) 211 (C211 N)
 | 0=>by
  rintro args σ Q ⟨t,rfl,hN,_⟩
  omega
 | N+1=>by
  rintro args σ Q ⟨t,rfl,hN,hQ⟩
  refine zN1 hG (fun v hv => ?_) (.bool _) (fun Q hQ => ?_) hQ
  ·simp only [List.mem_cons,List.not_mem_nil,or_false] at hv
   subst hv; exact zMK t
  have hsz:SizeOf.sizeOf t.l<N:=by
   obtain ⟨k,n,s,l⟩:=t
   simp only [T.mk.sizeOf_spec] at hN
   show SizeOf.sizeOf l<N
   omega
  have hH:zIP (EV B w0 G) (hnd (EV B w0 G) zHI zMU [(169,C169),(211,C211 N)]):=zJJ (zKM B w0 G) (zJI (zVU hG) (zJI (zX7 N) zJH))
  have two:∀ s,s∈zRY->zVJ t s 2=true->∀ σ',Q (.bool (t.l.all zRZ)) σ':=fun s hs h σ'=>by rw [<-zX6 hs h]; exact hQ _
  refine zKF (cuts:=[]) (zKM B w0 G) hH (fun lp hl _ Q a' σ' kk=>kk.elim) ((vc211 B w0 G N t Q).mpr (zE2 (fun h => ?_) (fun h2=>zE2 (fun h => ?_) (fun h1=>⟨t,zRX,1,rfl,zE2 (fun h => ?_) (fun g0=>⟨t,bPlus,2,rfl,zE2 (fun h=>zX4 (n:=0) h hsz (two _ (by simp [zRY]) h) _ _) (fun g1=>⟨t,zRX,2,rfl,zE2 (fun h=>zX4 (n:=0) h hsz (two _ (by simp [zRY]) h) _ _) (fun g2=>⟨t,bTimes,2,rfl,zE2 (fun h=>zX4 (n:=0) h hsz (two _ (by simp [zRY]) h) _ _) (fun g3=>⟨t,bOver,2,rfl,zE2 (fun h=>zX4 (n:=0) h hsz (two _ (by simp [zRY]) h) _ _) (fun g4=>⟨t,bMod,2,rfl,zE2 (fun g5 => ?_) (fun h=>zX4 (n:=0) (by simpa using h) hsz (two bMod (by simp [zRY]) (by simpa using h)) _ _)⟩)⟩)⟩)⟩)⟩)⟩))))
  ·rw [zS1,if_pos (by simpa using Or.inl (by simpa using h))] at hQ; exact hQ _
  ·rw [zS1,if_pos (by simpa using Or.inr (by simpa using h))] at hQ; exact hQ _
  ·have hl:t.l.length=1:=by have:=zX3 (by decide) h; omega
   have h0:=List.sizeOf_lt_of_mem (List.getElem_mem (l:=t.l) (n:=0) (by omega))
   rw [zX5 h,all_one hl] at hQ
   exact ⟨⟨by omega,by rw [zMH]; omega⟩,t.l[0],zNA (by omega),t.l[0],rfl,by omega,hQ _⟩
  ·have g5:zVJ t bMod 2=false:=by simpa using g5
   rw [exprS_no (by simpa using h2) (by simpa using h1) g0 (fun s hs=>by
    simp only [zRY,List.mem_cons,List.not_mem_nil,or_false] at hs
    rcases hs with rfl | rfl | rfl | rfl | rfl
    ·exact g1
    ·exact g2
    ·exact g3
    ·exact g4
    ·exact g5)] at hQ
   exact hQ _
theorem c187_ok:zJD (EV B w0 G) 187 C187:=by
 rintro args σ Q ⟨t,rfl,hQ⟩
 refine zN1 hG (fun v hv => ?_) (.bool _) (fun Q hQ => ?_) hQ
 ·simp only [List.mem_cons,List.not_mem_nil,or_false] at hv
  subst hv; exact zMK t
 have hH:zIP (EV B w0 G) (hnd (EV B w0 G) zHI zMU [(169,C169),(211,C211 (SizeOf.sizeOf t.l+1))]):=zJJ (zKM B w0 G) (zJI (zVU hG) (zJI (zX7 hG _) zJH))
 have hsz:=Nat.lt_succ_self (SizeOf.sizeOf t.l)
 rw [zX2] at hQ
 have yes:∀ {s:ByteArray} {n:Int},(s,n)∈zS2->n≠0->zVJ t s n=true->∀ σ',Q (.bool true) σ':=fun hm hn h σ'=>by
  rw [any_of hm hn h,Bool.true_or,Bool.or_true] at hQ; exact hQ _
 refine zKF (cuts:=[]) (zKM B w0 G) hH (fun lp hl _ Q a' σ' kk=>kk.elim) ((vc187 B w0 G _ t Q).mpr ⟨t,zR8,0,rfl,zE2 (fun h => ?_) (fun g0=>⟨t,_,_,rfl,zE2 (fun h=>yes (by simp [zS2]) (by decide) h _) (fun g1=>⟨t,_,_,rfl,zE2 (fun h=>yes (by simp [zS2]) (by decide) h _) (fun g2=>⟨t,_,_,rfl,zE2 (fun h=>yes (by simp [zS2]) (by decide) h _) (fun g3=>⟨t,_,_,rfl,zE2 (fun h=>yes (by simp [zS2]) (by decide) h _) (fun g4=>⟨t,_,_,rfl,zE2 (fun h=>yes (by simp [zS2]) (by decide) h _) (fun g5=>⟨t,_,_,rfl,zE2 (fun h=>yes (by simp [zS2]) (by decide) h _) (fun g6=>⟨t,_,_,rfl,zE2 (fun h=>yes (by simp [zS2]) (by decide) h _) (fun g7=>⟨t,_,_,rfl,zE2 (fun h=>yes (by simp [zS2]) (by decide) h _) (fun g8 => ?_)⟩)⟩)⟩)⟩)⟩)⟩)⟩)⟩)⟩)
 ·rw [show isA t zR8=true from h,Bool.true_or] at hQ; exact hQ _
 have t0:(zS2.any fun x=>isF t x.1 x.2)=false:=by
  rw [List.any_eq_false]
  intro x hx
  simp only [zS2,List.mem_cons,List.not_mem_nil,or_false] at hx
  rcases hx with rfl | rfl | rfl | rfl | rfl | rfl | rfl | rfl
  ·exact fun e=>by rw [show isF t _ _=false from g1] at e; cases e
  ·exact fun e=>by rw [show isF t _ _=false from g2] at e; cases e
  ·exact fun e=>by rw [show isF t _ _=false from g3] at e; cases e
  ·exact fun e=>by rw [show isF t _ _=false from g4] at e; cases e
  ·exact fun e=>by rw [show isF t _ _=false from g5] at e; cases e
  ·exact fun e=>by rw [show isF t _ _=false from g6] at e; cases e
  ·exact fun e=>by rw [show isF t _ _=false from g7] at e; cases e
  ·exact fun e=>by rw [show isF t _ _=false from g8] at e; cases e
 rw [show isA t zR8=false from g0,t0,Bool.false_or,Bool.false_or] at hQ
 have two:∀ {s:ByteArray},(s,2)∈zS3->zVJ t s 2=true->∀ σ',Q (.bool (t.l.all zRZ)) σ':=fun hm h σ'=>by
  rw [any_of hm (by decide) h,Bool.true_and] at hQ; exact hQ _
 refine ⟨t,_,_,rfl,zE2 (fun h=>zX4 (n:=0) h hsz (two (by simp [zS3]) h) _ _) (fun k1=>⟨t,_,_,rfl,zE2 (fun h=>zX4 (n:=0) h hsz (two (by simp [zS3]) h) _ _) (fun k2=>⟨t,_,_,rfl,zE2 (fun h=>zX4 (n:=0) h hsz (two (by simp [zS3]) h) _ _) (fun k3=>⟨t,_,_,rfl,zE2 (fun h=>zX4 (n:=0) h hsz (two (by simp [zS3]) h) _ _) (fun k4=>⟨t,_,_,rfl,zE2 (fun h=>zX4 (n:=0) h hsz (two (by simp [zS3]) h) _ _) (fun k5=>⟨t,⟨⟨[62,61]⟩⟩,2,rfl,zE2 (fun k6 => ?_) (fun h=>zX4 (n:=0) (s:=⟨⟨[62,61]⟩⟩) (by simpa using h) hsz (two (s:=⟨⟨[62,61]⟩⟩) (by simp [zS3]) (by simpa using h)) _ _)⟩)⟩)⟩)⟩)⟩)⟩
 have k6:zVJ t ⟨⟨[62,61]⟩⟩ 2=false:=by simpa using k6
 have c0:(zS3.any fun x=>isF t x.1 x.2)=false:=by
  rw [List.any_eq_false]
  intro x hx
  simp only [zS3,List.mem_cons,List.not_mem_nil,or_false] at hx
  rcases hx with rfl | rfl | rfl | rfl | rfl | rfl
  ·exact fun e=>by rw [show isF t _ _=false from k1] at e; cases e
  ·exact fun e=>by rw [show isF t _ _=false from k2] at e; cases e
  ·exact fun e=>by rw [show isF t _ _=false from k3] at e; cases e
  ·exact fun e=>by rw [show isF t _ _=false from k4] at e; cases e
  ·exact fun e=>by rw [show isF t _ _=false from k5] at e; cases e
  ·exact fun e=>by rw [show isF t _ _=false from k6] at e; cases e
 rw [c0,Bool.false_and] at hQ
 exact hQ _
theorem c72_ok:zJD (EV B w0 G) 72 C72:=by
 rintro args σ Q ⟨t,rfl,hb,hQ⟩
 refine zN1 hG (fun v hv => ?_) (.bool _) (fun Q hQ => ?_) hQ
 ·simp only [List.mem_cons,List.not_mem_nil,or_false] at hv
  subst hv; exact zMK t
 have hH:zIP (EV B w0 G) (hnd (EV B w0 G) zHI zMU [(110,zNZ (SizeOf.sizeOf t+1)),(111,C111 (SizeOf.sizeOf t+1))]):=zJJ (zKM B w0 G) (zJI (zOG hG _) (zJI (zOF hG _) zJH))
 have e:decide (zND t=0)=isR t:=by
  rw [zOC]
  cases isR t <;> rfl
 rw [e] at hQ
 unfold isR at hQ
 refine zKF (cuts:=[]) (zKM B w0 G) hH (fun lp hl _ Q a' σ' kk=>kk.elim) ((vc72 B w0 G _ t Q).mpr ⟨t,rfl,⟨hb,Nat.lt_succ_self _⟩,zE2 (fun h1=>zE2 (fun h2=>⟨t,rfl,⟨hb,Nat.lt_succ_self _⟩,?_⟩) (fun h2 => ?_)) (fun h1 => ?_)⟩)
 ·rw [h1,h2] at hQ; exact hQ _
 ·rw [h1,h2] at hQ; exact hQ _
 ·rw [h1] at hQ; exact hQ _
omit hG in
theorem zX8 {m:List T} (h:∀ x∈m,zND x=0):sizeL m<=4000*m.length:=by
 induction m with
 | nil=>exact Nat.zero_le _
 | cons x m ih =>
  have h1:=zQA (h x (by simp))
  have h2:=ih fun y hy=>h y (by simp [hy])
  rw [sizeL,List.length_cons]; omega
theorem zX9:zJD (EV B w0 G) 139 C139:=by
 rintro args σ Q ⟨l,rfl,⟨hlen,hb⟩,hQ⟩
 have hH:zIP (EV B w0 G) (hnd (EV B w0 G) zHI zMU [(72,C72),(110,zNZ (SizeOf.sizeOf l+1))]):=zJJ (zKM B w0 G) (zJI (c72_ok hG) (zJI (zOG hG _) zJH))
 refine zN1 hG (fun v hv => ?_) (.bool _) (fun Q hQ => ?_) hQ
 ·simp only [List.mem_cons,List.not_mem_nil,or_false] at hv
  subst hv
  exact zQI l
 let I:zWQ->Prop:=fun y=>y.i<=l.length/\y.n=sizeL (l.take y.i)/\∀ x∈l.take y.i,zND x=0
 let R:Nat->Prop:=fun n=>n=sizeL l/\∀ x∈l,zND x=0
 refine zKF (cuts:=[]) (zKM B w0 G) hH (fun lp hl _ Q a' σ kk => ?_) ((vc139 B w0 G _ l I R Q).mpr ⟨⟨⟨Nat.zero_le _,rfl,by simp⟩,rfl,rfl,rfl,.refl _⟩,fun n hn σ' => ?_,fun h σ'=>by rw [h] at hQ; exact hQ _⟩)
 rotate_left
 ·obtain ⟨rfl,hc⟩:=hn
  have:zS5 l=decide ((sizeL l:Int)<=4000):=by
   rw [Bool.eq_iff_iff,zT6,decide_eq_true_eq]
   exact ⟨fun h=>by omega,fun h=>⟨hc,by omega⟩⟩
  rw [<-this]; exact hQ _
 change lp∈zKE Tryz.prog [] 139 at hl
 rw [zWS] at hl
 simp only [List.mem_cons,List.not_mem_nil,or_false] at hl
 subst hl
 obtain ⟨⟨hI0,hat⟩,hR1,hR2⟩:=kk
 refine zK5 (zWR l I) (x0:=⟨0,0⟩) (fun y hI => ?_) (fun y hI e a' σ hne kk => ?_) hI0 hat
 ·obtain ⟨n,i⟩:=y
  obtain ⟨hi,hn,hc⟩:=hI
  change i<=l.length at hi
  change n=sizeL (l.take i) at hn
  change ∀ x∈l.take i,zND x=0 at hc
  refine zP3 hH (zKM B w0 G) (by kernel_rfl) ((vc139l B w0 G _ l I n i).mpr (zE2 (fun h => ?_) (fun h=>⟨fun h2 => ?_,rfl,trivial⟩)))
  ·have h:(i:Int)<((tcellL l).length:Int):=of_decide_eq_true h
   rw [zMH] at h
   have hi2:i<l.length:=by omega
   have hm:=List.getElem_mem hi2
   have hs:=zT4 hi2
   have hr:(0:Int)<=(i:Int)/\(i:Int)<((tcellL l).length:Int):=⟨by omega,by rw [zMH]; omega⟩
   have hg:AV.vptr (AV.cells (List.getD (tcellL l) (Int.toNat (i:Int)) AV.undef)) = .vptr (tc l[i]):=by rw [Int.toNat_natCast]; exact zNA hi2
   refine ⟨hr,l[i],hg,l[i],rfl,hb _ hm,zE2 (fun h1=>⟨?_,rfl,trivial⟩) (fun h1=>⟨hr,l[i],hg,l[i],rfl,⟨hb _ hm,by have:=List.sizeOf_lt_of_mem hm; omega⟩,⟨sizeL (l.take (i+1)),i+1⟩,⟨⟨hi2,rfl,?_⟩,?_⟩,rfl,?_,?_,zSM⟩)⟩
   ·cases e:zS5 l with
    | false=>rfl
    | true =>
     have:=(zT6.1 e).1 _ hm
     rw [this] at h1; cases h1
   ·have h1:zND l[i]=0:=by simpa using h1
    intro x hx
    rw [List.take_succ_eq_append_getElem hi2,List.mem_append] at hx
    rcases hx with hx | hx
    ·exact hc x hx
    ·simp only [List.mem_cons,List.not_mem_nil,or_false] at hx
     rw [hx]; exact h1
   ·show l.length - (i+1)<l.length - i
    omega
   ·have h1:zND l[i]=0:=by simpa using h1
    have hk:=zQA h1
    have hz:=zX8 hc
    have hlt:(l.take i).length<=1000000:=by rw [List.length_take]; omega
    show TV.v (iZ (IntKind.wrap .i64 ((n:Int)+(l[i].size:Int))))=TV.v (iZ ((sizeL (l.take (i+1)):Nat):Int))
    rw [hn,hs,show ((sizeL (l.take i):Int)+(l[i].size:Int))=((sizeL (l.take i)+l[i].size:Nat):Int) by omega,zN8 (by omega) (by omega)]
   ·exact congrArg (fun z=>TV.v (iZ z)) (by rw [show ((i:Int)+1)=((i+1:Nat):Int) by omega,zN8 (by omega) (by omega)])
  ·have h:¬ (i:Int)<((tcellL l).length:Int):=of_decide_eq_false h
   rw [zMH] at h
   have h2:i<l.length:=h2
   omega
 ·obtain ⟨n,i⟩:=y
  obtain ⟨hi,hn,hc⟩:=hI
  change i<=l.length at hi
  change n=sizeL (l.take i) at hn
  change ∀ x∈l.take i,zND x=0 at hc
  cases e with
  | exit j =>
   match j,kk with
   | 0,kk =>
    obtain ⟨hk,hat⟩:=kk
    have hk:¬ i<l.length:=hk
    rw [show i=l.length by omega,List.take_length] at hn hc
    exact ⟨_,σ,(zJM hat).1,.refl _,hR1 n ⟨hn,hc⟩ σ⟩
  | ret=>exact ⟨_,σ,(zJM kk.2).1,.refl _,hR2 kk.1 σ⟩
  | normal=>exact absurd rfl hne
  | _=>exact kk.elim
theorem zXA:zJD (EV B w0 G) 140 C140:=by
 rintro args σ Q ⟨l,rfl,⟨hlen,hch,hb⟩,hQ⟩
 have hH:zIP (EV B w0 G) (hnd (EV B w0 G) zHI zMU [(110,zNZ (SizeOf.sizeOf l+1))]):=zJJ (zKM B w0 G) (zJI (zOG hG _) zJH)
 refine zN1 hG (fun v hv => ?_) (.int _ _) (fun Q hQ => ?_) hQ
 ·simp only [List.mem_cons,List.not_mem_nil,or_false] at hv
  subst hv
  exact zQI l
 let I:zWQ->Prop:=fun y=>y.i<=l.length/\y.n=sizeL (l.take y.i)
 let R:Nat->Prop:=fun n=>n=sizeL l
 refine zKF (cuts:=[]) (zKM B w0 G) hH (fun lp hl _ Q a' σ kk => ?_) ((vc140 B w0 G _ l I R Q).mpr ⟨⟨⟨Nat.zero_le _,rfl⟩,rfl,rfl,rfl,.refl _⟩,fun n hn σ'=>by rw [show n=sizeL l from hn]; exact hQ _⟩)
 change lp∈zKE Tryz.prog [] 140 at hl
 rw [zWU] at hl
 simp only [List.mem_cons,List.not_mem_nil,or_false] at hl
 subst hl
 obtain ⟨⟨hI0,hat⟩,hR1⟩:=kk
 refine zK5 (zWT l I) (x0:=⟨0,0⟩) (fun y hI => ?_) (fun y hI e a' σ hne kk => ?_) hI0 hat
 ·obtain ⟨n,i⟩:=y
  obtain ⟨hi,hn⟩:=hI
  change i<=l.length at hi
  change n=sizeL (l.take i) at hn
  refine zP3 hH (zKM B w0 G) (by kernel_rfl) ((vc140l B w0 G _ l I n i).mpr (zE2 (fun h => ?_) (fun h=>⟨fun h2 => ?_,rfl,trivial⟩)))
  ·have h:(i:Int)<((tcellL l).length:Int):=of_decide_eq_true h
   rw [zMH] at h
   have hi2:i<l.length:=by omega
   have hm:=List.getElem_mem hi2
   have hs:=zT4 hi2
   refine ⟨⟨by show (0:Int)<=(i:Int); omega,by rw [zMH]; exact h⟩,l[i],?_,l[i],rfl,⟨hb _ hm,by have:=List.sizeOf_lt_of_mem hm; omega⟩,⟨sizeL (l.take (i+1)),i+1⟩,⟨⟨hi2,rfl⟩,?_⟩,rfl,?_,?_,zSM⟩
   ·show AV.vptr (AV.cells (List.getD (tcellL l) (Int.toNat (i:Int)) AV.undef))=_
    rw [Int.toNat_natCast]; exact zNA hi2
   ·show l.length - (i+1)<l.length - i
    omega
   ·have hk:=zQA (hch _ hm)
    have hz:=zX8 (m:=l.take i) fun x hx=>hch x (List.mem_of_mem_take hx)
    have hlt:(l.take i).length<=1000000:=by rw [List.length_take]; omega
    show TV.v (iZ (IntKind.wrap .i64 ((n:Int)+(l[i].size:Int))))=TV.v (iZ ((sizeL (l.take (i+1)):Nat):Int))
    rw [hn,hs,show ((sizeL (l.take i):Int)+(l[i].size:Int))=((sizeL (l.take i)+l[i].size:Nat):Int) by omega,zN8 (by omega) (by omega)]
   ·exact congrArg (fun z=>TV.v (iZ z)) (by rw [show ((i:Int)+1)=((i+1:Nat):Int) by omega,zN8 (by omega) (by omega)])
  ·have h:¬ (i:Int)<((tcellL l).length:Int):=of_decide_eq_false h
   rw [zMH] at h
   have h2:i<l.length:=h2
   omega
 ·obtain ⟨n,i⟩:=y
  obtain ⟨hi,hn⟩:=hI
  change i<=l.length at hi
  change n=sizeL (l.take i) at hn
  cases e with
  | exit j =>
   match j,kk with
   | 0,kk =>
    obtain ⟨hk,hat⟩:=kk
    have hk:¬ i<l.length:=hk
    rw [show i=l.length by omega,List.take_length] at hn
    exact ⟨_,σ,(zJM hat).1,.refl _,hR1 n hn σ⟩
  | normal=>exact absurd rfl hne
  | _=>exact kk.elim
end
end Go.V
