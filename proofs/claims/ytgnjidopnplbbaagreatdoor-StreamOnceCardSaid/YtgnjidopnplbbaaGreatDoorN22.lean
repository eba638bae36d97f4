import Derived.Test.YtgnjidopnplbbaaGreatDoorN21
/- Conditions: the methods of a merger. -/
set_option maxRecDepth 1000000
set_option linter.unusedVariables false
namespace Go.V
open Go Go.Proofs

def A86:Nat -> FnAnn:=fun f => match Nat.beq f 86 with
 | true => noAnn
 | false => annA f
def N86:FnHint:=hAt [(3,2,hEl 3 1)]
theorem vc86n (B:Nat) (w0:World) (G:Nat -> AV) (σ:State) (Q:AV -> State -> Prop):(bodyC (EV B w0 G) (H0 (EV B w0 G)) (fun _ _ _ _ => False) A86 N86 86 [.nilslice] σ Q) =
 ((Q AV.nilslice σ)):=by kernel_rfl
theorem vc86r (B:Nat) (w0:World) (G:Nat -> AV) (σ:State) (id off n:Nat) (Q:AV -> State -> Prop):(bodyC (EV B w0 G) (H0 (EV B w0 G)) (fun _ _ _ _ => False) A86 N86 86 [.rslice id off n] σ Q) =
 ((∃ a0:OE,(((State.objs σ (id)) = (AObj.cells (OE.cs a0) 3 1 (OE.g a0)))/\
 ((((((off) + (n)) * 1):Nat) <= (List.length (OE.cs a0)))/\
 (bcase (List.isEmpty (chunk Option.none (List.take ((n) * 1) (List.drop ((off) * 1) (OE.cs a0))) (n)))
 (Q (AV.slice 1 [] Cap.full) σ)
 ((((((0 + (List.length (chunk Option.none (List.take ((n) * 1) (List.drop ((off) * 1) (OE.cs a0))) (n)))) * 8):Nat) <= 140737488355328)/\
 (((0 + (List.length (chunk Option.none (List.take ((n) * 1) (List.drop ((off) * 1) (OE.cs a0))) (n)))):Nat) <= 4611686018427387904))/\
 (Q (AV.slice 1 ([] ++ (chunk Option.none (List.take ((n) * 1) (List.drop ((off) * 1) (OE.cs a0))) (n))) (Cap.tok (State.next σ))) (State.new σ (AObj.tok (0 + (List.length (chunk Option.none (List.take ((n) * 1) (List.drop ((off) * 1) (OE.cs a0))) (n)))) 3 1))))))))):=by kernel_rfl
def MRep (c:MH) (M:Nat) (m:RM):Prop:=∃ (L:ML) (p:PM),L.M = M /\ Rep c L p /\ Abs p m /\ m.Wf
def C56r:Contract:=fun args σ K => ∃ (c:MH) (M:Nat) (m:RM) (i:Int),args = [.ptr M 0,.int .i64 i] /\ (At c σ /\ MRep c M m) /\
 ∀ (c':MH) (σ':State),(At c' σ' /\ MRep c' M (m.close i).1 /\ Frame' c c') -> K (.int .i64 (m.close i).2) σ'
def H56 (E:Env):Hand:=hnd E annA noHints [(84,C84m),(85,C85m),(87,C87m)]
theorem vc56 (B:Nat) (w0:World) (G:Nat -> AV) (σ:State) (M:Nat) (i:Int) (Q:AV -> State -> Prop):(bodyC (EV B w0 G) (H56 (EV B w0 G)) (fun _ _ _ _ => False) annA noHint 56 [.ptr M 0,.int .i64 i] σ Q) =
 ((∃ c0:MH,(∃ L1:ML,(∃ p2:PM,(∃ i3:Int,(([(AV.ptr (M) 0),(AV.int .i64 (i))] = [(AV.ptr (ML.M L1) 0),(AV.int .i64 (i3))])/\
 (((At c0 σ)/\
 (Rep c0 L1 p2))/\
 ((((PM.opened p2 i3) = Option.none) -> (Q (AV.int .i64 90) σ))/\
 (∀ k4:Nat,(∀ id5:Nat,(((PM.opened p2 i3) = (Option.some (k4))) -> ((((ML.ids L1)[k4]?) = (Option.some (id5))) -> (∃ c6:MH,(∃ L7:ML,(∃ p8:PM,(∃ k9:Nat,(∃ id10:Nat,(([(AV.ptr (M) 0),(AV.ptr (id5) 0)] = [(AV.ptr (ML.M L7) 0),(AV.ptr (id10) 0)])/\
 (((At c6 σ)/\
 ((Rep c6 L7 p8)/\
 ((((ML.ids L7)[k9]?) = (Option.some (id10)))/\
 (((1:Nat) <= (PM.count p8))/\
 (((PM.count p8:Nat) <= 1000000)/\
 ((PM.work p8:Nat) <= 1000000))))))/\
 (∀ c'11:MH,(∀ σ'12:State,(((At c'11 σ'12)/\
 ((Rep c'11 L7
 (have __src :=
  PM.setI p8 k9
   (have __src:=PM.at p8 k9;
   { op:=Bool.false,fr:=PI.fr __src,beh:=PI.beh __src,q:=PI.q __src });
 { I:=PM.I __src,turn:=PM.turn __src,came:=PM.came __src,gone:=PM.gone __src,work:=PM.work p8 + 1,count:=PM.count p8 - 1 }))/\
 (∀ q13:MRole,(((q13 ∈ [MRole.m,MRole.inp k9]) -> False) -> ((c'11 q13) = (c6 q13)))))) -> (∃ c13:MH,(∃ L14:ML,(∃ p15:PM,(∃ k16:Nat,(∃ id17:Nat,(([(AV.ptr (M) 0),(AV.ptr (id5) 0)] = [(AV.ptr (ML.M L14) 0),(AV.ptr (id17) 0)])/\
 (((At c13 σ'12)/\
 ((Rep c13 L14 p15)/\
 ((((ML.ids L14)[k16]?) = (Option.some (id17)))/\
 ((PM.Ok p15)/\
 (((PM.T p15:Nat) <= 50000)/\
 (((List.length (PM.turn p15)):Nat) <= 40000))))))/\
 (∀ c'18:MH,(∀ L'19:ML,(∀ p'20:PM,(∀ σ'21:State,(((At c'18 σ'21)/\
 ((((ML.M L'19:Nat) = (ML.M L14))/\
 ((ML.ids L'19) = (ML.ids L14)))/\
 ((Rep c'18 L'19 p'20)/\
 ((∃ p122:PM,(∃ now23:List Nat,((FReach p15 [k16] [] p122 [] now23)/\
 ((p'20) = (pushAll p122 (sortN now23))))))/\
 (Frame' c13 c'18))))) -> (Q (AV.int .i64 0) σ'21))))))))))))))))))))))))))))))))))):=by kernel_rfl
def N44:FnHint:=hAt [(4,4,hMR),(4,6,hEl 155 1),(4,7,hPtr),(6,3,hM),(6,7,hM),(7,3,hM),(7,7,hM)]
def H44 (E:Env):Hand:=hnd E annA noHints [(90,C90q 3 1),(91,C91q 3 1 fun x:Nat => .int .i64 (x:Int)),(92,C91q 37 4 fun x:T => .agg (tc x)),(87,C87m),(88,C90q 37 4),(89,C89q 3 1 fun x:Int => .int .i64 x)]
theorem vc44 (B:Nat) (w0:World) (G:Nat -> AV) (σ:State) (M:Nat) (Q:AV -> State -> Prop):(bodyC (EV B w0 G) (H44 (EV B w0 G)) (fun _ _ _ _ => False) annA N44 44 [.ptr M 0] σ Q) =
 ((∃ c0:MH,(∃ r1:MRole,(∃ s2:MRole,(∃ id3:Nat,(∃ A4:List AV,(∃ Bs5:List AV,(∃ oe6:Nat,(∃ osz7:Nat,(∃ og8:Bool,(∃ lv9:AV,(∃ fr10:Nat,(∃ n11:Nat,(∃ vals12:List AV,(∃ off13:Nat,(([(AV.ptr (M) 1)] = [(AV.ptr (id3) (off13))])/\
 (((At c0 σ)/\
 ((QP c0 r1 s2 id3 A4 Bs5 oe6 osz7 og8 3 1 lv9 fr10 n11 vals12)/\
 ((((off13):Nat) = (List.length (A4)))/\
 (((n11):Nat) <= 100000))))/\
 (bcase ((((n11:Nat):Int):Int) == 0)
 (Q (AV.tuple [(AV.agg [(AV.int .i64 0),(AV.int .i64 0),(AV.int .i64 0),(AV.str ⟨⟨[]⟩⟩),AV.nilslice]),(AV.bool false)]) σ)
 (∃ c14:MH,(∃ r15:MRole,(∃ s16:MRole,(∃ id17:Nat,(∃ A18:List AV,(∃ Bs19:List AV,(∃ oe20:Nat,(∃ osz21:Nat,(∃ og22:Bool,(∃ lv23:AV,(∃ fr24:Nat,(∃ n25:Nat,(∃ vals26:List AV,(∃ off27:Nat,(∃ x28:Nat,(([(AV.ptr (M) 1)] = [(AV.ptr (id17) (off27))])/\
 (((At c14 σ)/\
 ((QP c14 r15 s16 id17 A18 Bs19 oe20 osz21 og22 3 1 lv23 fr24 (n25 + 1) (AV.cells (AV.int .i64 (↑x28:Int)) ++ vals26))/\
 ((((off27):Nat) = (List.length (A18)))/\
 ((((n25):Nat) <= 100000)/\
 ((List.all vals26 AV.one) = true)))))/\
 (∀ lv'29:AV,(∀ fr'30:Nat,(∀ c'31:MH,(∀ σ'32:State,(((At c'31 σ'32)/\
 ((QP c'31 r15 s16 id17 A18 Bs19 oe20 osz21 og22 3 1 lv'29 fr'30 n25 vals26)/\
 (∀ q33:MRole,(((q33 ∈ [r15,s16]) -> False) -> ((c'31 q33) = (c14 q33)))))) -> (∃ a33:OM,(((State.objs σ'32 (M)) = (AObj.cells [(OM.iv a33),(OM.tv a33),(OM.tf a33),(AV.int .i64 ((OM.came a33:Nat):Int)),(AV.int .i64 ((OM.gone a33:Nat):Int)),(AV.int .i64 ((OM.work a33:Nat):Int)),(AV.int .i64 ((OM.count a33:Nat):Int))] 153 7 false))/\
 (((0:Nat) < 7)/\
 (∃ x34:RS,(((List.getD [OM.iv a33,OM.tv a33,OM.tf a33,AV.int .i64 (↑(OM.came a33):Int),AV.int .i64 (↑(OM.gone a33):Int),AV.int .i64 (↑(OM.work a33):Int),AV.int .i64 (↑(OM.count a33):Int)] 0 AV.undef) = (AV.rslice (RS.id x34) 0 (RS.n x34)))/\
 (∃ a35:OE,(((State.objs σ'32 (RS.id x34)) = (AObj.cells (OE.cs a35) 155 1 (OE.g a35)))/\
 ((((0:Int) <= ((x28:Nat):Int))/\
 ((((x28:Nat):Int):Int) < ((RS.n x34:Nat):Int)))/\
 (∃ a36:OE,(((State.objs σ'32 (RS.id x34)) = (AObj.cells (OE.cs a36) 155 1 (OE.g a36)))/\
 (((((0 + (Int.toNat ((x28:Nat):Int))) * 1):Nat) < (List.length (OE.cs a36)))/\
 (∃ x37:Nat,(((List.getD (OE.cs a36) ((0 + Int.toNat (↑x28:Int)) * 1) AV.undef) = (AV.ptr (x37) 0))/\
 (∃ c38:MH,(∃ r39:MRole,(∃ s40:MRole,(∃ id41:Nat,(∃ A42:List AV,(∃ Bs43:List AV,(∃ oe44:Nat,(∃ osz45:Nat,(∃ og46:Bool,(∃ lv47:AV,(∃ fr48:Nat,(∃ n49:Nat,(∃ vals50:List AV,(∃ off51:Nat,(∃ x52:T,(([(AV.ptr (x37) 3)] = [(AV.ptr (id41) (off51))])/\
 (((At c38 σ'32)/\
 ((QP c38 r39 s40 id41 A42 Bs43 oe44 osz45 og46 37 4 lv47 fr48 (n49 + 1) (AV.cells (AV.agg (tc x52)) ++ vals50))/\
 ((((off51):Nat) = (List.length (A42)))/\
 ((((n49):Nat) <= 100000)/\
 ((List.all vals50 AV.one) = true)))))/\
 (∀ lv'53:AV,(∀ fr'54:Nat,(∀ c'55:MH,(∀ σ'56:State,(((At c'55 σ'56)/\
 ((QP c'55 r39 s40 id41 A42 Bs43 oe44 osz45 og46 37 4 lv'53 fr'54 n49 vals50)/\
 (∀ q57:MRole,(((q57 ∈ [r39,s40]) -> False) -> ((c'55 q57) = (c38 q57)))))) -> (∃ a57:OM,(((State.objs σ'56 (M)) = (AObj.cells [(OM.iv a57),(OM.tv a57),(OM.tf a57),(AV.int .i64 ((OM.came a57:Nat):Int)),(AV.int .i64 ((OM.gone a57:Nat):Int)),(AV.int .i64 ((OM.work a57:Nat):Int)),(AV.int .i64 ((OM.count a57:Nat):Int))] 153 7 false))/\
 (((4:Nat) < 7)/\
 (∃ a58:OM,(((State.objs σ'56 (M)) = (AObj.cells [(OM.iv a58),(OM.tv a58),(OM.tf a58),(AV.int .i64 ((OM.came a58:Nat):Int)),(AV.int .i64 ((OM.gone a58:Nat):Int)),(AV.int .i64 ((OM.work a58:Nat):Int)),(AV.int .i64 ((OM.count a58:Nat):Int))] 153 7 false))/\
 (((5:Nat) <= 7)/\
 (∃ a59:OM,(((State.objs (State.set σ'56 (M) (AObj.cells [(OM.iv a58),(OM.tv a58),(OM.tf a58),(AV.int .i64 ((OM.came a58:Nat):Int)),(AV.int .i64 (IntKind.wrap .i64 (((OM.gone a57:Nat):Int) + 1))),(AV.int .i64 ((OM.work a58:Nat):Int)),(AV.int .i64 ((OM.count a58:Nat):Int))] 153 7 false)) (M)) = (AObj.cells [(OM.iv a59),(OM.tv a59),(OM.tf a59),(AV.int .i64 ((OM.came a59:Nat):Int)),(AV.int .i64 ((OM.gone a59:Nat):Int)),(AV.int .i64 ((OM.work a59:Nat):Int)),(AV.int .i64 ((OM.count a59:Nat):Int))] 153 7 false))/\
 (((5:Nat) < 7)/\
 (∃ a60:OM,(((State.objs (State.set σ'56 (M) (AObj.cells [(OM.iv a58),(OM.tv a58),(OM.tf a58),(AV.int .i64 ((OM.came a58:Nat):Int)),(AV.int .i64 (IntKind.wrap .i64 (((OM.gone a57:Nat):Int) + 1))),(AV.int .i64 ((OM.work a58:Nat):Int)),(AV.int .i64 ((OM.count a58:Nat):Int))] 153 7 false)) (M)) = (AObj.cells [(OM.iv a60),(OM.tv a60),(OM.tf a60),(AV.int .i64 ((OM.came a60:Nat):Int)),(AV.int .i64 ((OM.gone a60:Nat):Int)),(AV.int .i64 ((OM.work a60:Nat):Int)),(AV.int .i64 ((OM.count a60:Nat):Int))] 153 7 false))/\
 (((6:Nat) <= 7)/\
 (∃ c61:MH,(∃ L62:ML,(∃ p63:PM,(∃ k64:Nat,(∃ id65:Nat,(([(AV.ptr (M) 0),(AV.ptr (x37) 0)] = [(AV.ptr (ML.M L62) 0),(AV.ptr (id65) 0)])/\
 (((At c61 (State.set (State.set σ'56 (M) (AObj.cells [(OM.iv a58),(OM.tv a58),(OM.tf a58),(AV.int .i64 ((OM.came a58:Nat):Int)),(AV.int .i64 (IntKind.wrap .i64 (((OM.gone a57:Nat):Int) + 1))),(AV.int .i64 ((OM.work a58:Nat):Int)),(AV.int .i64 ((OM.count a58:Nat):Int))] 153 7 false)) (M) (AObj.cells [(OM.iv a60),(OM.tv a60),(OM.tf a60),(AV.int .i64 ((OM.came a60:Nat):Int)),(AV.int .i64 ((OM.gone a60:Nat):Int)),(AV.int .i64 (IntKind.wrap .i64 (((OM.work a59:Nat):Int) + 1))),(AV.int .i64 ((OM.count a60:Nat):Int))] 153 7 false)))/\
 ((Rep c61 L62 p63)/\
 ((((ML.ids L62)[k64]?) = (Option.some (id65)))/\
 ((PM.Ok p63)/\
 (((PM.T p63:Nat) <= 50000)/\
 (((List.length (PM.turn p63)):Nat) <= 40000))))))/\
 (∀ c'66:MH,(∀ L'67:ML,(∀ p'68:PM,(∀ σ'69:State,(((At c'66 σ'69)/\
 ((((ML.M L'67:Nat) = (ML.M L62))/\
 ((ML.ids L'67) = (ML.ids L62)))/\
 ((Rep c'66 L'67 p'68)/\
 ((∃ p170:PM,(∃ now71:List Nat,((FReach p63 [k64] [] p170 [] now71)/\
 ((p'68) = (pushAll p170 (sortN now71))))))/\
 (Frame' c61 c'66))))) -> (∃ c70:MH,(∃ r71:MRole,(∃ s72:MRole,(∃ id73:Nat,(∃ A74:List AV,(∃ Bs75:List AV,(∃ oe76:Nat,(∃ osz77:Nat,(∃ og78:Bool,(∃ lv79:AV,(∃ fr80:Nat,(∃ n81:Nat,(∃ vals82:List AV,(∃ off83:Nat,(([(AV.ptr (x37) 3)] = [(AV.ptr (id73) (off83))])/\
 (((At c70 σ'69)/\
 ((QP c70 r71 s72 id73 A74 Bs75 oe76 osz77 og78 37 4 lv79 fr80 n81 vals82)/\
 ((((off83):Nat) = (List.length (A74)))/\
 (((n81):Nat) <= 100000))))/\
 (bcase (decide ((((n81:Nat):Int):Int) > 0))
 (∃ c84:MH,(∃ r85:MRole,(∃ s86:MRole,(∃ id87:Nat,(∃ A88:List AV,(∃ Bs89:List AV,(∃ oe90:Nat,(∃ osz91:Nat,(∃ og92:Bool,(∃ lv93:AV,(∃ fr94:Nat,(∃ n95:Nat,(∃ vals96:List AV,(∃ off97:Nat,(∃ x98:Int,(([(AV.ptr (M) 1),(AV.int .i64 ((x28:Nat):Int))] = [(AV.ptr (id87) (off97)),(AV.int .i64 (x98))])/\
 (((At c84 σ'69)/\
 ((QP c84 r85 s86 id87 A88 Bs89 oe90 osz91 og92 3 1 lv93 fr94 n95 vals96)/\
 ((((off97):Nat) = (List.length (A88)))/\
 (((n95):Nat) <= 100000))))/\
 (∀ lv'99:AV,(∀ c'100:MH,(∀ σ'101:State,(((At c'100 σ'101)/\
 ((QP c'100 r85 s86 id87 A88 Bs89 oe90 osz91 og92 3 1 lv'99 fr94 (n95 + 1) (vals96 ++ AV.cells (AV.int .i64 x98)))/\
 (∀ q102:MRole,(((q102 ∈ [r85,s86]) -> False) -> ((c'100 q102) = (c84 q102)))))) -> (Q (AV.tuple [(AV.agg [(AV.int .i64 ((x28:Nat):Int)),(AV.int .i64 (T.k x52)),(AV.int .i64 (T.n x52)),(AV.str (T.s x52)),(AV.slice 4 (tcellL (T.l x52)) Cap.any)]),(AV.bool true)]) σ'101))))))))))))))))))))))
 (Q (AV.tuple [(AV.agg [(AV.int .i64 ((x28:Nat):Int)),(AV.int .i64 (T.k x52)),(AV.int .i64 (T.n x52)),(AV.str (T.s x52)),(AV.slice 4 (tcellL (T.l x52)) Cap.any)]),(AV.bool true)]) σ'69))))))))))))))))))))))))))))))))))))))))))))))))))))))))))))))))))))))))))))))))))))))))))))))))))))))))))))))))))))):=by kernel_rfl
def N43:FnHint:=hAt [(8,3,hM),(10,3,hM),(10,7,hM),(11,3,hM),(11,7,hM),(13,3,hI)]
def H43 (E:Env) (N:Nat):Hand:=hnd E annA noHints [(84,C84m),(66,C66),(68,C68 N),(67,C89q 37 4 fun x:T => .agg (tc x)),(88,C90q 37 4),(89,C89q 3 1 fun x:Int => .int .i64 x)]
theorem vc43 (B:Nat) (w0:World) (G:Nat -> AV) (N:Nat) (σ:State) (M:Nat) (i:Int) (t:T) (Q:AV -> State -> Prop):(bodyC (EV B w0 G) (H43 (EV B w0 G) N) (fun _ _ _ _ => False) annA N43 43 [.ptr M 0,.int .i64 i,.agg (tc t)] σ Q) =
 ((∃ c0:MH,(∃ L1:ML,(∃ p2:PM,(∃ i3:Int,(([(AV.ptr (M) 0),(AV.int .i64 (i))] = [(AV.ptr (ML.M L1) 0),(AV.int .i64 (i3))])/\
 (((At c0 σ)/\
 (Rep c0 L1 p2))/\
 ((((PM.opened p2 i3) = Option.none) -> (Q (AV.int .i64 90) σ))/\
 (∀ k4:Nat,(∀ id5:Nat,(((PM.opened p2 i3) = (Option.some (k4))) -> ((((ML.ids L1)[k4]?) = (Option.some (id5))) -> (∃ t6:T,(([(AV.agg [(AV.int .i64 (T.k t)),(AV.int .i64 (T.n t)),(AV.str (T.s t)),(AV.slice 4 (tcellL (T.l t)) Cap.any)])] = [(AV.agg [(AV.int .i64 (T.k t6)),(AV.int .i64 (T.n t6)),(AV.str (T.s t6)),(AV.slice 4 (tcellL (T.l t6)) Cap.any)])])/\
 (bcase (((chkT t6):Int) != 0)
 (Q (AV.int .i64 3) (State.untok σ))
 (∃ a7:OM,(((State.objs (State.untok σ) (M)) = (AObj.cells [(OM.iv a7),(OM.tv a7),(OM.tf a7),(AV.int .i64 ((OM.came a7:Nat):Int)),(AV.int .i64 ((OM.gone a7:Nat):Int)),(AV.int .i64 ((OM.work a7:Nat):Int)),(AV.int .i64 ((OM.count a7:Nat):Int))] 153 7 false))/\
 (((3:Nat) < 7)/\
 (bcase (decide ((((OM.came a7:Nat):Int):Int) ≥ 20000))
 (Q (AV.int .i64 91) (State.untok σ))
 (∃ a8:OM,(((State.objs (State.untok σ) (M)) = (AObj.cells [(OM.iv a8),(OM.tv a8),(OM.tf a8),(AV.int .i64 ((OM.came a8:Nat):Int)),(AV.int .i64 ((OM.gone a8:Nat):Int)),(AV.int .i64 ((OM.work a8:Nat):Int)),(AV.int .i64 ((OM.count a8:Nat):Int))] 153 7 false))/\
 (((3:Nat) < 7)/\
 (∃ a9:OM,(((State.objs (State.untok σ) (M)) = (AObj.cells [(OM.iv a9),(OM.tv a9),(OM.tf a9),(AV.int .i64 ((OM.came a9:Nat):Int)),(AV.int .i64 ((OM.gone a9:Nat):Int)),(AV.int .i64 ((OM.work a9:Nat):Int)),(AV.int .i64 ((OM.count a9:Nat):Int))] 153 7 false))/\
 (((4:Nat) <= 7)/\
 (∃ a10:OM,(((State.objs (State.set (State.untok σ) (M) (AObj.cells [(OM.iv a9),(OM.tv a9),(OM.tf a9),(AV.int .i64 (IntKind.wrap .i64 (((OM.came a8:Nat):Int) + 1))),(AV.int .i64 ((OM.gone a9:Nat):Int)),(AV.int .i64 ((OM.work a9:Nat):Int)),(AV.int .i64 ((OM.count a9:Nat):Int))] 153 7 false)) (M)) = (AObj.cells [(OM.iv a10),(OM.tv a10),(OM.tf a10),(AV.int .i64 ((OM.came a10:Nat):Int)),(AV.int .i64 ((OM.gone a10:Nat):Int)),(AV.int .i64 ((OM.work a10:Nat):Int)),(AV.int .i64 ((OM.count a10:Nat):Int))] 153 7 false))/\
 (((5:Nat) < 7)/\
 (∃ a11:OM,(((State.objs (State.set (State.untok σ) (M) (AObj.cells [(OM.iv a9),(OM.tv a9),(OM.tf a9),(AV.int .i64 (IntKind.wrap .i64 (((OM.came a8:Nat):Int) + 1))),(AV.int .i64 ((OM.gone a9:Nat):Int)),(AV.int .i64 ((OM.work a9:Nat):Int)),(AV.int .i64 ((OM.count a9:Nat):Int))] 153 7 false)) (M)) = (AObj.cells [(OM.iv a11),(OM.tv a11),(OM.tf a11),(AV.int .i64 ((OM.came a11:Nat):Int)),(AV.int .i64 ((OM.gone a11:Nat):Int)),(AV.int .i64 ((OM.work a11:Nat):Int)),(AV.int .i64 ((OM.count a11:Nat):Int))] 153 7 false))/\
 (((6:Nat) <= 7)/\
 (∃ t12:T,(([(AV.agg [(AV.int .i64 (T.k t)),(AV.int .i64 (T.n t)),(AV.str (T.s t)),(AV.slice 4 (tcellL (T.l t)) Cap.any)])] = [(AV.agg [(AV.int .i64 (T.k t12)),(AV.int .i64 (T.n t12)),(AV.str (T.s t12)),(AV.slice 4 (tcellL (T.l t12)) Cap.any)])])/\
 (((T.small t12)/\
 ((SizeOf.sizeOf t12:Nat) < (N)))/\
 ((Rf (TV.v (AV.ptr (id5) 0)))/\
 ((Rf (TV.v (AV.ptr (id5) 0)))/\
 ((Rf (TV.v (AV.ptr (id5) 3)))/\
 (∃ c13:MH,(∃ r14:MRole,(∃ s15:MRole,(∃ id16:Nat,(∃ A17:List AV,(∃ Bs18:List AV,(∃ oe19:Nat,(∃ osz20:Nat,(∃ og21:Bool,(∃ lv22:AV,(∃ fr23:Nat,(∃ n24:Nat,(∃ vals25:List AV,(∃ off26:Nat,(∃ x27:T,(([(AV.ptr (id5) 3),(AV.agg [(AV.int .i64 (T.k t12)),(AV.int .i64 (T.n t12)),(AV.str (T.s t12)),(AV.slice 4 (tcellL (T.l t12)) Cap.any)])] = [(AV.ptr (id16) (off26)),(AV.agg [(AV.int .i64 (T.k x27)),(AV.int .i64 (T.n x27)),(AV.str (T.s x27)),(AV.slice 4 (tcellL (T.l x27)) Cap.any)])])/\
 (((At c13 (State.untok (State.set (State.set (State.untok σ) (M) (AObj.cells [(OM.iv a9),(OM.tv a9),(OM.tf a9),(AV.int .i64 (IntKind.wrap .i64 (((OM.came a8:Nat):Int) + 1))),(AV.int .i64 ((OM.gone a9:Nat):Int)),(AV.int .i64 ((OM.work a9:Nat):Int)),(AV.int .i64 ((OM.count a9:Nat):Int))] 153 7 false)) (M) (AObj.cells [(OM.iv a11),(OM.tv a11),(OM.tf a11),(AV.int .i64 ((OM.came a11:Nat):Int)),(AV.int .i64 ((OM.gone a11:Nat):Int)),(AV.int .i64 (IntKind.wrap .i64 (((OM.work a10:Nat):Int) + 1))),(AV.int .i64 ((OM.count a11:Nat):Int))] 153 7 false))))/\
 ((QP c13 r14 s15 id16 A17 Bs18 oe19 osz20 og21 37 4 lv22 fr23 n24 vals25)/\
 ((((off26):Nat) = (List.length (A17)))/\
 (((n24):Nat) <= 100000))))/\
 (∀ lv'28:AV,(∀ c'29:MH,(∀ σ'30:State,(((At c'29 σ'30)/\
 ((QP c'29 r14 s15 id16 A17 Bs18 oe19 osz20 og21 37 4 lv'28 fr23 (n24 + 1) (vals25 ++ AV.cells (AV.agg (tc x27))))/\
 (∀ q31:MRole,(((q31 ∈ [r14,s15]) -> False) -> ((c'29 q31) = (c13 q31)))))) -> (∃ a31:OI,(((State.objs σ'30 (id5)) = (AObj.cells [(AV.bool (OI.op a31)),(AV.bool (OI.fr a31)),(OI.bv a31),(OI.qv a31),(OI.qf a31)] 159 5 false))/\
 (((1:Nat) < 5)/\
 (bcase (OI.fr a31)
 (∃ c32:MH,(∃ r33:MRole,(∃ s34:MRole,(∃ id35:Nat,(∃ A36:List AV,(∃ Bs37:List AV,(∃ oe38:Nat,(∃ osz39:Nat,(∃ og40:Bool,(∃ lv41:AV,(∃ fr42:Nat,(∃ n43:Nat,(∃ vals44:List AV,(∃ off45:Nat,(([(AV.ptr (id5) 3)] = [(AV.ptr (id35) (off45))])/\
 (((At c32 σ'30)/\
 ((QP c32 r33 s34 id35 A36 Bs37 oe38 osz39 og40 37 4 lv41 fr42 n43 vals44)/\
 ((((off45):Nat) = (List.length (A36)))/\
 (((n43):Nat) <= 100000))))/\
 (bcase ((((n43:Nat):Int):Int) == 1)
 (∃ c46:MH,(∃ r47:MRole,(∃ s48:MRole,(∃ id49:Nat,(∃ A50:List AV,(∃ Bs51:List AV,(∃ oe52:Nat,(∃ osz53:Nat,(∃ og54:Bool,(∃ lv55:AV,(∃ fr56:Nat,(∃ n57:Nat,(∃ vals58:List AV,(∃ off59:Nat,(∃ x60:Int,(([(AV.ptr (M) 1),(AV.int .i64 (i))] = [(AV.ptr (id49) (off59)),(AV.int .i64 (x60))])/\
 (((At c46 σ'30)/\
 ((QP c46 r47 s48 id49 A50 Bs51 oe52 osz53 og54 3 1 lv55 fr56 n57 vals58)/\
 ((((off59):Nat) = (List.length (A50)))/\
 (((n57):Nat) <= 100000))))/\
 (∀ lv'61:AV,(∀ c'62:MH,(∀ σ'63:State,(((At c'62 σ'63)/\
 ((QP c'62 r47 s48 id49 A50 Bs51 oe52 osz53 og54 3 1 lv'61 fr56 (n57 + 1) (vals58 ++ AV.cells (AV.int .i64 x60)))/\
 (∀ q64:MRole,(((q64 ∈ [r47,s48]) -> False) -> ((c'62 q64) = (c46 q64)))))) -> (Q (AV.int .i64 0) σ'63))))))))))))))))))))))
 (Q (AV.int .i64 0) σ'30))))))))))))))))))
 (Q (AV.int .i64 0) σ'30))))))))))))))))))))))))))))))))))))))))))))))))))))))))))))))):=by kernel_rfl
end Go.V
/- The methods of a merger: Close, Next. -/
set_option linter.unusedSimpArgs false
set_option linter.unusedSectionVars false
namespace Go.V
open Go Go.Proofs

theorem Rep.itemQP {c:MH} {L:ML} {p:PM} (h:Rep c L p) {k:Nat} (hk:k < L.ids.length):∃ (bv qv:AV) (qf:Nat),QP c (.inp k) (.itm k) L.ids[k] [.bool (p.at k).op,.bool (p.at k).fr,bv] [] 159 5 false 37 4 qv qf (p.at k).q.length (flat (tcellL (p.at k).q)) /\ SlAt c (.beh k) 3 1 bv (intsV (p.at k).beh):=by
 obtain ⟨bv,qv,qf,h1,h2,h3⟩:=(h.inp k hk).ex
 exact ⟨bv,qv,qf,⟨by simp,h1,h3⟩,h2⟩
theorem Rep.ofItem {c c':MH} {L:ML} {p:PM} (h:Rep c L p) {k:Nat} (hk:k < L.ids.length) {bv lv:AV} {fr:Nat} {q:List T} (hb:SlAt c (.beh k) 3 1 bv (intsV (p.at k).beh))
  (hq:QP c' (.inp k) (.itm k) L.ids[k] [.bool (p.at k).op,.bool (p.at k).fr,bv] [] 159 5 false 37 4 lv fr q.length (flat (tcellL q))) (hs:Same c c' [.inp k,.itm k]):Rep c' L (p.setI k { p.at k with q:=q }) where
 m:=(hs _ (by simp)).trans h.m
 ins:=h.ins.congr (hs _ (by simp))
 turn:=h.turn.congr (hs _ (by simp))
 len:=h.len.trans List.length_set.symm
 inp j hj:=by
  rw [PM.setI_at (by rw [<-h.len]; exact hk)]
  by_cases e:j = k
  ·subst e
   rw [if_pos rfl]
   exact ⟨bv,lv,fr,hq.ob,hb.congr (hs _ (by simp)),hq.q⟩
  ·rw [if_neg e]
   exact (h.inp j hj).congr (hs _ (by simp [e])) (hs _ (by simp)) (hs _ (by simp [e]))
theorem Rep.setM {c:MH} {L:ML} {p p':PM} (h:Rep c L p) (hI:p'.I = p.I) (ht:p'.turn = p.turn):Rep (hup c .m (some (L.M,.cells (mcells L p') 153 7 false))) L p' :=
 h.upd hup_self rfl rfl (hup_ne (by simp)) (by rw [ht]; exact h.turn.congr (hup_ne (by simp))) (by rw [hI]) fun j hj => by
  have e:p'.at j = p.at j:=by unfold PM.at; rw [hI]
  rw [e]
  exact (h.inp j hj).congr (hup_ne (by simp)) (hup_ne (by simp)) (hup_ne (by simp))
theorem Rep.ids_ne {c:MH} {L:ML} {p:PM} (h:Rep c L p) {k:Nat} (hk:k < L.ids.length):∃ (iid:Nat) (g:Bool),L.iv = .rslice iid 0 L.ids.length /\ c .ins = some (iid,.cells (ptrsV L.ids) 155 1 g):=by
 rcases h.ins.inv with ⟨_,h2⟩ | ⟨id,n,g,h1,h2,h3⟩
 ·have:=congrArg List.length h2
  rw [ptrsV_len] at this
  simp at this
  rw [this] at hk
  exact absurd hk (by simp)
 ·rw [ptrsV_len] at h3
  have:n = L.ids.length:=by omega
  subst this
  exact ⟨id,g,h1,h2⟩

section
variable {B:Nat} {w0:World} {G:Nat -> AV}
variable (hG:∀ i,NoId (G i))
include hG

theorem H56_ok:HOk1 (EV B w0 G) (H56 (EV B w0 G)):=hnd_ok (EV_mixed B w0 G) (contracts_cons c84_ok (contracts_cons c85_ok (contracts_cons (c87_ok hG) contracts_nil)))

theorem c56_ok:ContractOk (EV B w0 G) 56 C56r:=by
 rintro args σ Q ⟨c,M,m,i,rfl,⟨hA,L,p,rfl,hR,hP,hW⟩,hQ⟩
 have ho:=hP.a.opened i
 refine bodyC_ok (EV_mixed B w0 G) (H56_ok hG) (fun l hl _ Q a σ k => k.elim) ((vc56 B w0 G σ L.M i Q).mpr ?_)
 refine ⟨c,L,p,i,rfl,⟨hA,hR⟩,fun hn => ?_,fun k id hk hid => ?_⟩
 ·rw [ho] at hn
  have e:m.close i = (m,90):=by unfold RM.close; rw [hn]
  rw [e] at hQ
  exact hQ c σ ⟨hA,⟨L,p,rfl,hR,hP,hW⟩,.refl _⟩
 ·rw [ho] at hk
  obtain ⟨_,hkl,hop⟩:=opened_some hk
  have e:m.close i = ((m.shut k).fresh,0):=by unfold RM.close; rw [hk]
  rw [e] at hQ
  have hwk:=hW.w.work
  have hcnt:=hP.count
  have hol:=opens_le m
  have hlen:=hW.w.len
  have hop1:=op_le hop
  have hpw:=hP.a.work
  refine ⟨c,L,p,k,id,rfl,⟨hA,hR,hid,by omega,by omega,by omega⟩,fun c1 σ1 ⟨hA1,hR1,hs1⟩ => ?_⟩
  obtain ⟨w1,w2,w3,w4⟩:=shut_wf hW hkl hop
  have hA0:Abs0 { p.setI k { p.at k with op:=false } with count:=p.count - 1,work:=p.work + 1 } (m.shut k) :=
   abs_set hP.a hkl rfl rfl rfl (hP.a.fr k) (hP.a.q k) rfl rfl rfl hP.a.turn (congrArg (· + 1) hP.a.work) hP.a.came
  have hT:=hA0.T
  have hsl:(m.shut k).I.length = m.I.length:=List.length_set
  have htl:=nd_len w1
  have htt:p.turn.length = (m.shut k).turn.length:=congrArg List.length hP.a.turn
  refine ⟨c1,L,_,k,id,rfl,⟨hA1,hR1,hid,hA0.ok w1,by omega,by show p.turn.length <= _; omega⟩,fun c2 L2 p2 σ2 ⟨hA2,⟨hM2,hids2⟩,hR2,hF,hx⟩ => ?_⟩
  obtain ⟨h1,h2⟩:=close_abs hP hW hkl hop hF
  refine hQ c2 σ2 ⟨hA2,⟨L2,p2,hM2,hR2,h1,h2⟩,((show Same c c1 [.m,.inp k] from hs1).frame ?_).trans hx⟩
  intro q hq
  simp at hq
  rcases hq with rfl | rfl <;> rfl
end

def itemV:Option (Nat × T) -> AV
 | none => .tuple [.agg [.int .i64 0,.int .i64 0,.int .i64 0,.str ⟨⟨[]⟩⟩,.nilslice],.bool false]
 | some (k,t) => .tuple [.agg (.int .i64 (k:Int) :: tc t),.bool true]
def C44r:Contract:=fun args σ K => ∃ (c:MH) (M:Nat) (m:RM),args = [.ptr M 0] /\ (At c σ /\ MRep c M m) /\
 ∀ (c':MH) (σ':State),(At c' σ' /\ MRep c' M m.next.1 /\ Frame' c c') -> K (itemV m.next.2) σ'

section
variable {B:Nat} {w0:World} {G:Nat -> AV}
variable (hG:∀ i,NoId (G i))
include hG
theorem H44_ok:HOk1 (EV B w0 G) (H44 (EV B w0 G)):=hnd_ok (EV_mixed B w0 G) (contracts_cons c90_ok (contracts_cons c91_ok (contracts_cons c92_ok (contracts_cons (c87_ok hG) (contracts_cons c88_ok (contracts_cons c89_ok contracts_nil))))))

theorem c44_ok:ContractOk (EV B w0 G) 44 C44r:=by
 rintro args σ Q ⟨c,M,m,rfl,⟨hA,L,p,rfl,hR,hP,hW⟩,hQ⟩
 have htl:=nd_len hW.w
 have hlen:=hW.w.len
 have hpt:=hP.a.turn
 have hptl:p.turn.length = m.turn.length:=congrArg List.length hpt
 have hwk:=hW.w.work
 have hpw:=hP.a.work
 have hputs:=hW.w.puts
 have hgone:=hP.gone
 refine bodyC_ok (EV_mixed B w0 G) (H44_ok hG) (fun l hl _ Q a σ k => k.elim) ((vc44 B w0 G σ L.M Q).mpr ?_)
 refine ⟨c,.m,.turn,L.M,[L.iv],mrest p,153,7,false,L.tv,L.tf,_,_,1,rfl,⟨hA,hR.turnQP,rfl,by omega⟩,bcase_of (fun h0 => ?_) (fun h0 => ?_)⟩
 ·have ht:m.turn = []:=by
   have h0:=eq_of_beq h0
   exact List.length_eq_zero_iff.1 (by omega)
  have e:m.next = (m,none):=by unfold RM.next; rw [ht]
  rw [e] at hQ
  exact hQ c σ ⟨hA,⟨L,p,rfl,hR,hP,hW⟩,.refl _⟩
 ·obtain ⟨k,r,ht⟩:∃ k r,m.turn = k :: r:=by
   cases ht:m.turn with
   | nil => rw [hpt,ht] at h0; simp at h0
   | cons k r => exact ⟨k,r,rfl⟩
  obtain ⟨hkl,hkf,hkq,_⟩:=(hW.w.tm k).1 (by rw [ht]; simp)
  obtain ⟨t,q,hq⟩:∃ t q,(m.at k).q = t :: q:=by
   cases hq:(m.at k).q with
   | nil => exact absurd hq hkq
   | cons t q => exact ⟨t,q,rfl⟩
  have e:m.next = ((m.take1 k r q).fresh.back k q,some (k,t)):=by unfold RM.next; rw [ht]; dsimp only; rw [hq]
  rw [e] at hQ
  rw [ht] at hpt htl
  have hqt:=hR.turnQP
  rw [hpt] at hqt
  have hrl:r.length <= 4096:=by simp at htl; omega
  have hone:∀ l:List Nat,(intsV l).all AV.one = true:=fun l => by unfold intsV; rw [List.all_map,List.all_eq_true]; exact fun _ _ => rfl
  refine ⟨c,.m,.turn,L.M,[L.iv],mrest p,153,7,false,L.tv,L.tf,r.length,intsV r,1,k,rfl,⟨hA,hqt,rfl,by omega,hone r⟩,fun lv1 fr1 c1 σ1 ⟨hA1,hq1,hs1⟩ => ?_⟩
  have hs1:Same c c1 [.m,.turn]:=hs1
  have hR1:=hR.ofTurn hq1 hs1
  have hids:L.ids.length = m.I.length:=hR.len.trans hP.a.len
  have hkids:k < L.ids.length:=by omega
  obtain ⟨iid,ig,hiv,hins⟩:=hR1.ids_ne hkids
  have hM1:=hR1.obM hA1
  have hins':=hA1.obj hins
  obtain ⟨bv,qv,qf,hqi,hbi⟩:=hR1.itemQP hkids
  have hpq:(p.at k).q = t :: q:=by rw [hP.a.q]; exact hq
  have hql:q.length <= 20000:=by
   have:=q_le m k
   rw [hq] at this
   have:=hW.w.qp
   simp at *; omega
  change QP c1 (.inp k) (.itm k) L.ids[k] [.bool (p.at k).op,.bool (p.at k).fr,bv] [] 159 5 false 37 4 qv qf (p.at k).q.length (flat (tcellL (p.at k).q)) at hqi
  rw [hpq,tcellL,flat_cons,tcell_eq] at hqi
  refine ⟨⟨L.iv,lv1,.int .i64 (fr1:Int),p.came,p.gone,p.work,p.count⟩,hM1,by decide,⟨iid,L.ids.length⟩,hiv,⟨ptrsV L.ids,ig⟩,hins',⟨by omega,by show (k:Int) < (L.ids.length:Int); omega⟩,⟨ptrsV L.ids,ig⟩,hins',by rw [ptrsV_len,Int.toNat_natCast]; omega,L.ids[k],by rw [Int.toNat_natCast,Nat.zero_add,Nat.mul_one]; exact ptrsV_get hkids,?_⟩
  refine ⟨c1,.inp k,.itm k,L.ids[k],[.bool (p.at k).op,.bool (p.at k).fr,bv],[],159,5,false,qv,qf,q.length,flat (tcellL q),3,t,rfl,⟨hA1,hqi,rfl,by omega,flat_one q⟩,fun lv2 fr2 c2 σ2 ⟨hA2,hq2,hs2⟩ => ?_⟩
  have hs2:Same c1 c2 [.inp k,.itm k]:=hs2
  have hR2:=hR1.ofItem hkids hbi hq2 hs2
  have hM2:=hR2.obM hA2
  have w1:IntKind.wrap .i64 ((p.gone:Int) + 1) = ((p.gone + 1:Nat):Int):=by rw [wr_small (by omega) (by omega)]; omega
  have w2:IntKind.wrap .i64 ((p.work:Int) + 1) = ((p.work + 1:Nat):Int):=by rw [wr_small (by omega) (by omega)]; omega
  refine ⟨⟨L.iv,lv1,.int .i64 (fr1:Int),p.came,p.gone,p.work,p.count⟩,hM2,by decide,⟨L.iv,lv1,.int .i64 (fr1:Int),p.came,p.gone,p.work,p.count⟩,hM2,by decide,⟨L.iv,lv1,.int .i64 (fr1:Int),p.came,p.gone + 1,p.work,p.count⟩,?_,by decide,⟨L.iv,lv1,.int .i64 (fr1:Int),p.came,p.gone + 1,p.work,p.count⟩,?_,by decide,?_⟩
  ·rw [objs_set,if_pos rfl,w1]
  ·rw [objs_set,if_pos rfl,w1]
  dsimp only
  rw [w1,w2]
  have hm2:=hR2.m
  have hR3:=hR2.setM (p':={ (({ p with turn:=r }:PM).setI k { ({ p with turn:=r }:PM).at k with q:=q }) with gone:=p.gone + 1 }) rfl rfl
  have hA3:=hA2.set hm2 (.cells [L.iv,lv1,.int .i64 (fr1:Int),.int .i64 (p.came:Int),.int .i64 ((p.gone + 1:Nat):Int),.int .i64 (p.work:Int),.int .i64 (p.count:Int)] 153 7 false)
  have hR4:=hR3.setM (p':={ (({ p with turn:=r }:PM).setI k { ({ p with turn:=r }:PM).at k with q:=q }) with gone:=p.gone + 1,work:=p.work + 1 }) rfl rfl
  have hA4:=hA3.set hR3.m (.cells [L.iv,lv1,.int .i64 (fr1:Int),.int .i64 (p.came:Int),.int .i64 ((p.gone + 1:Nat):Int),.int .i64 ((p.work + 1:Nat):Int),.int .i64 (p.count:Int)] 153 7 false)
  obtain ⟨v1,v2,v3,v4,_,_⟩:=take1_wf hW ht hq
  have hA0:Abs0 { (({ p with turn:=r }:PM).setI k { ({ p with turn:=r }:PM).at k with q:=q }) with gone:=p.gone + 1,work:=p.work + 1 } (m.take1 k r q) :=
   abs_set hP.a hkl rfl rfl (hP.a.op k) (hP.a.fr k) rfl rfl rfl rfl rfl (congrArg (· + 1) hP.a.work) hP.a.came
  have hT:=hA0.T
  have hsl:(m.take1 k r q).I.length = m.I.length:=List.length_set
  refine ⟨_,{ L with tv:=lv1,tf:=fr1 },_,k,L.ids[k],rfl,⟨hA4,hR4,List.getElem?_eq_getElem hkids,hA0.ok v1,by omega,by show r.length <= _; omega⟩,fun c5 L5 p5 σ5 ⟨hA5,⟨hM5,hids5⟩,hR5,hF,hx⟩ => ?_⟩
  obtain ⟨n1,n2,n3,n4,n5⟩:=next_abs (p1:={ (({ p with turn:=r }:PM).setI k { ({ p with turn:=r }:PM).at k with q:=q }) with gone:=p.gone + 1,work:=p.work + 1 }) hP hW ht hq rfl rfl rfl rfl rfl rfl hF
  have hM5':L5.M = L.M:=hM5
  have hids5':L5.ids = L.ids:=hids5
  have hk5:k < L5.ids.length:=by rw [hids5']; exact hkids
  have hfr:Frame' c c5:=by
   refine Frame'.trans (hs1.frame ?_) (Frame'.trans (hs2.frame ?_) (Frame'.trans (fun i => ?_) hx))
   ·intro q hq; simp at hq; rcases hq with rfl | rfl <;> rfl
   ·intro q hq; simp at hq; rcases hq with rfl | rfl <;> rfl
   ·rw [hup_ne (by simp),hup_ne (by simp)]
  obtain ⟨bv5,qv5,qf5,hqi5,hbi5⟩:=hR5.itemQP hk5
  have hid5:L5.ids[k] = L.ids[k]:=by simp only [hids5']
  rw [hid5] at hqi5
  refine ⟨c5,.inp k,.itm k,L.ids[k],_,_,159,5,false,qv5,qf5,_,_,3,rfl,⟨hA5,hqi5,rfl,by rw [n3]; omega⟩,bcase_of (fun h => ?_) (fun h => ?_)⟩
  ·have h:=of_decide_eq_true h
   rw [n3] at h
   have hqe:q.isEmpty = false:=by
    cases q with
    | nil => simp at h
    | cons a q => rfl
   have hqt5:=hR5.turnQP
   rw [hM5'] at hqt5
   refine ⟨c5,.m,.turn,L.M,[L5.iv],mrest p5,153,7,false,L5.tv,L5.tf,_,_,1,(k:Int),rfl,⟨hA5,hqt5,rfl,by omega⟩,fun lv6 c6 σ6 ⟨hA6,hq6,hs6⟩ => ?_⟩
   have hs6:Same c5 c6 [.m,.turn]:=hs6
   have hR6:=hR5.ofTurn (t:=p5.turn ++ [k]) (by rw [hM5',List.length_append,intsV_append]; exact hq6) hs6
   rw [hqe] at n1
   refine hQ c6 σ6 ⟨hA6,⟨{ L5 with tv:=lv6,tf:=L5.tf },_,hM5',hR6,n1,n2⟩,hfr.trans (hs6.frame ?_)⟩
   intro q hq; simp at hq; rcases hq with rfl | rfl <;> rfl
  ·have h:=of_decide_eq_false h
   rw [n3] at h
   have hqe:q.isEmpty = true:=by
    cases q with
    | nil => rfl
    | cons a q => simp at h
   rw [hqe] at n1
   exact hQ c5 σ5 ⟨hA5,⟨L5,p5,hM5',hR5,n1,n2⟩,hfr⟩
end
end Go.V
/- The methods of a merger: Put. -/
namespace Go.V
open Go Go.Proofs

def cleanH (c:MH):MH:=fun r => match c r with
 | some (id,o) => match isTok o with
  | true => none
  | false => some (id,o)
 | none => none
theorem clean_some {c:MH} {r:MRole} {x:Nat × AObj} (h:cleanH c r = some x):c r = some x /\ isTok x.2 = false:=by
 unfold cleanH at h
 split at h
 ·rename_i id o e
  split at h
  ·cases h
  ·rename_i e2
   cases h
   exact ⟨e,e2⟩
 ·cases h
theorem clean_eq {c:MH} {r:MRole} (h:∀ id o,c r = some (id,o) -> isTok o = false):cleanH c r = c r:=by
 unfold cleanH
 cases e:c r with
 | none => rfl
 | some x =>
  obtain ⟨id,o⟩:=x
  dsimp only
  rw [h id o e]
theorem At.clean {c:MH} {σ:State} (h:At c σ):At (cleanH c) σ.untok :=
 (h.sub fun r x hx => (clean_some hx).1).untok fun r id o hx => (clean_some hx).2
theorem clean_cells {c:MH} {r:MRole} {id e sz:Nat} {g:Bool} {cs:List AV} (h:c r = some (id,.cells cs e sz g)):cleanH c r = some (id,.cells cs e sz g):=by
 rw [clean_eq fun id o h2 => by rw [h] at h2; cases h2; rfl,h]
theorem SlAt.clean {c:MH} {r:MRole} {e sz:Nat} {v:AV} {cs:List AV} (h:SlAt c r e sz v cs):SlAt (cleanH c) r e sz v cs:=by
 cases h with
 | nil => exact .nil
 | row id n g cs h hl => exact .row id n g cs (clean_cells h) hl
theorem QuAt.clean {c:MH} {r:MRole} {e sz fr n:Nat} {v:AV} {cs:List AV} (h:QuAt c r e sz v fr n cs):QuAt (cleanH c) r e sz v fr n cs:=by
 obtain ⟨pre,h1,h2⟩:=h
 exact ⟨pre,h1.clean,h2⟩
theorem Rep.clean {c:MH} {L:ML} {p:PM} (h:Rep c L p):Rep (cleanH c) L p where
 m:=clean_cells h.m
 ins:=h.ins.clean
 turn:=h.turn.clean
 len:=h.len
 inp k hk:=by
  obtain ⟨bv,qv,qf,h1,h2,h3⟩:=(h.inp k hk).ex
  exact ⟨bv,qv,qf,clean_cells h1,h2.clean,h3.clean⟩
def XT (c:MH):Prop:=∀ i id o,c (.x i) = some (id,o) -> isTok o = false
theorem XT.frame {c c':MH} (h:XT c) (hf:Frame' c c'):XT c':=fun i id o hx => h i id o (by rw [<-hf i]; exact hx)
theorem XT.clean {c:MH} (h:XT c):Frame' c (cleanH c):=fun i => clean_eq (h i)
theorem MRep.clean {c:MH} {M:Nat} {m:RM} (h:MRep c M m):MRep (cleanH c) M m:=by
 obtain ⟨L,p,h1,h2,h3⟩:=h
 exact ⟨L,p,h1,h2.clean,h3⟩

def C43r:Contract:=fun args σ K => ∃ (c:MH) (M:Nat) (m:RM) (i:Int) (t:T),args = [.ptr M 0,.int .i64 i,.agg (tc t)] /\ (At c σ /\ MRep c M m /\ XT c) /\
 ∀ (c':MH) (σ':State),(At c' σ' /\ MRep c' M (m.put i t).1 /\ Frame' c c') -> K (.int .i64 (m.put i t).2) σ'

section
variable {B:Nat} {w0:World} {G:Nat -> AV}
variable (hG:∀ i,NoId (G i))
include hG
theorem H43_ok (N:Nat):HOk1 (EV B w0 G) (H43 (EV B w0 G) N):=hnd_ok (EV_mixed B w0 G) (contracts_cons c84_ok (contracts_cons (c66_ok hG) (contracts_cons (c68_ok hG N) (contracts_cons c67_ok (contracts_cons c88_ok (contracts_cons c89_ok contracts_nil))))))

theorem c43_ok:ContractOk (EV B w0 G) 43 C43r:=by
 rintro args σ Q ⟨c,M,m,i,t,rfl,⟨hA,⟨L,p,rfl,hR,hP,hW⟩,hX⟩,hQ⟩
 have ho:=hP.a.opened i
 have hwk:=hW.w.work
 have hpw:=hP.a.work
 have hpc:=hP.a.came
 have hputs:=hW.w.puts
 have htl:=nd_len hW.w
 have hlen:=hW.w.len
 have hptl:p.turn.length = m.turn.length:=congrArg List.length hP.a.turn
 refine bodyC_ok (EV_mixed B w0 G) (H43_ok hG (SizeOf.sizeOf t + 1)) (fun l hl _ Q a σ k => k.elim) ((vc43 B w0 G (SizeOf.sizeOf t + 1) σ L.M i t Q).mpr ?_)
 refine ⟨c,L,p,i,rfl,⟨hA,hR⟩,fun hn => ?_,fun k id hk hid => ?_⟩
 ·rw [ho] at hn
  have e:m.put i t = (m,90):=by unfold RM.put; rw [hn]
  rw [e] at hQ
  exact hQ c σ ⟨hA,⟨L,p,rfl,hR,hP,hW⟩,.refl _⟩
 ·rw [ho] at hk
  obtain ⟨_,hkl,hop⟩:=opened_some hk
  have hids:L.ids.length = m.I.length:=hR.len.trans hP.a.len
  have hkids:k < L.ids.length:=by omega
  have hide:L.ids[k] = id:=by rw [List.getElem?_eq_getElem hkids] at hid; exact Option.some.inj hid
  subst hide
  have hAc:=hA.clean
  have hRc:=hR.clean
  have hMc:=hRc.obM hAc
  have e:m.put i t = if chkT t ≠ 0 then (m,3) else if 20000 <= m.puts then (m,91) else (m.put1 k t,0):=by unfold RM.put; rw [hk]
  rw [e] at hQ
  refine ⟨t,rfl,bcase_of (fun h => ?_) (fun h => ?_)⟩
  ·rw [if_pos (by simpa using h)] at hQ
   exact hQ _ _ ⟨hAc,⟨L,p,rfl,hRc,hP,hW⟩,hX.clean⟩
  have hchk:chkT t = 0:=by simpa using h
  rw [if_neg (by simpa using h)] at hQ
  refine ⟨⟨L.iv,L.tv,.int .i64 (L.tf:Int),p.came,p.gone,p.work,p.count⟩,hMc,by decide,bcase_of (fun h => ?_) (fun h => ?_)⟩
  ·have h:(p.came:Int) ≥ 20000:=of_decide_eq_true h
   rw [if_pos (by omega)] at hQ
   exact hQ _ _ ⟨hAc,⟨L,p,rfl,hRc,hP,hW⟩,hX.clean⟩
  have h:=of_decide_eq_false h
  have hlt:m.puts < 20000:=by
   have h:¬ ((p.came:Int) ≥ 20000):=h
   omega
  rw [if_neg (by omega)] at hQ
  have w1:IntKind.wrap .i64 ((p.came:Int) + 1) = ((p.came + 1:Nat):Int):=by rw [wr_small (by omega) (by omega)]; omega
  have w2:IntKind.wrap .i64 ((p.work:Int) + 1) = ((p.work + 1:Nat):Int):=by rw [wr_small (by omega) (by omega)]; omega
  refine ⟨⟨L.iv,L.tv,.int .i64 (L.tf:Int),p.came,p.gone,p.work,p.count⟩,hMc,by decide,⟨L.iv,L.tv,.int .i64 (L.tf:Int),p.came,p.gone,p.work,p.count⟩,hMc,by decide,⟨L.iv,L.tv,.int .i64 (L.tf:Int),p.came + 1,p.gone,p.work,p.count⟩,?_,by decide,⟨L.iv,L.tv,.int .i64 (L.tf:Int),p.came + 1,p.gone,p.work,p.count⟩,?_,by decide,?_⟩
  ·rw [objs_set,if_pos rfl,w1]
  ·rw [objs_set,if_pos rfl,w1]
  dsimp only
  rw [w1,w2]
  have hR3:=hRc.setM (p':={ p with came:=p.came + 1 }) rfl rfl
  have hA3:=hAc.set hRc.m (.cells [L.iv,L.tv,.int .i64 (L.tf:Int),.int .i64 ((p.came + 1:Nat):Int),.int .i64 (p.gone:Int),.int .i64 (p.work:Int),.int .i64 (p.count:Int)] 153 7 false)
  have hR4:=hR3.setM (p':={ p with came:=p.came + 1,work:=p.work + 1 }) rfl rfl
  have hA4:=hA3.set hR3.m (.cells [L.iv,L.tv,.int .i64 (L.tf:Int),.int .i64 ((p.came + 1:Nat):Int),.int .i64 (p.gone:Int),.int .i64 ((p.work + 1:Nat):Int),.int .i64 (p.count:Int)] 153 7 false)
  have hX4:Frame' c (hup (hup (cleanH c) .m (some (L.M,.cells (mcells L { p with came:=p.came + 1 }) 153 7 false))) .m (some (L.M,.cells (mcells L { p with came:=p.came + 1,work:=p.work + 1 }) 153 7 false))):=fun i => by
   rw [hup_ne (by simp),hup_ne (by simp)]; exact hX.clean i
  have hA5:=hA4.clean
  have hR5:=hR4.clean
  have hX5:=hX4.trans (hX.frame hX4).clean
  obtain ⟨bv,qv,qf,hqi,hbi⟩:=hR5.itemQP hkids
  have hql:=q_le m k
  have hqp:=hW.w.qp
  have hpq:(p.at k).q = (m.at k).q:=hP.a.q k
  change QP _ (.inp k) (.itm k) L.ids[k] [.bool (p.at k).op,.bool (p.at k).fr,bv] [] 159 5 false 37 4 qv qf (p.at k).q.length (flat (tcellL (p.at k).q)) at hqi
  refine ⟨t,rfl,⟨chk_small hchk,Nat.lt_succ_self _⟩,rfl,rfl,rfl,?_⟩
  refine ⟨_,.inp k,.itm k,L.ids[k],[.bool (p.at k).op,.bool (p.at k).fr,bv],[],159,5,false,qv,qf,_,_,3,t,rfl,⟨hA5,hqi,rfl,by rw [hpq]; omega⟩,fun lv6 c6 σ6 ⟨hA6,hq6,hs6⟩ => ?_⟩
  have hs6:Same _ c6 [.inp k,.itm k]:=hs6
  have hR6:=hR5.ofItem (q:=(p.at k).q ++ [t]) hkids hbi (by
   have h9:=flat_push (p.at k).q t
   rw [List.take_of_length_le (by rw [flat_tcl]; omega)] at h9
   rw [List.length_append,<-h9]
   exact hq6) hs6
  have hX6:Frame' c c6:=hX5.trans (hs6.frame (by intro q hq; simp at hq; rcases hq with rfl | rfl <;> rfl))
  have hob6:=hA6.obj hq6.ob
  have key:∀ (p':PM),p'.I = p.I.set k { p.at k with q:=(p.at k).q ++ [t] } -> p'.turn = (if (p.at k).fr && (p.at k).q.isEmpty then p.turn ++ [k] else p.turn) -> p'.work = p.work + 1 -> p'.came = p.came + 1 -> p'.gone = p.gone -> p'.count = p.count -> Abs p' (m.put1 k t) /\ (m.put1 k t).Wf:=fun p' a1 a2 a3 a4 a5 a6 =>
   ⟨put_abs hP hkl hop a1 a2 a3 a4 a5 a6,put1_wf hW hkl hop hchk hlt⟩
  refine ⟨⟨(p.at k).op,(p.at k).fr,bv,lv6,.int .i64 (qf:Int)⟩,hob6,by decide,bcase_of (fun hf => ?_) (fun hf => ?_)⟩
  ·refine ⟨c6,.inp k,.itm k,L.ids[k],[.bool (p.at k).op,.bool (p.at k).fr,bv],[],159,5,false,lv6,qf,_,_,3,rfl,⟨hA6,hq6,rfl,by rw [hpq]; omega⟩,bcase_of (fun h1 => ?_) (fun h1 => ?_)⟩
   ·have h1:=eq_of_beq h1
    have hqe:(p.at k).q.isEmpty = true:=by rw [List.isEmpty_iff]; exact List.length_eq_zero_iff.1 (by omega)
    have hf:(p.at k).fr = true:=hf
    have hqt:=hR6.turnQP
    refine ⟨c6,.m,.turn,L.M,[L.iv],_,153,7,false,L.tv,L.tf,_,_,1,i,rfl,⟨hA6,hqt,rfl,by show p.turn.length <= _; omega⟩,fun lv7 c7 σ7 ⟨hA7,hq7,hs7⟩ => ?_⟩
    have hs7:Same c6 c7 [.m,.turn]:=hs7
    have hik:i = (k:Int):=(opened_some hk).1
    have hR7:=hR6.ofTurn (t:=p.turn ++ [k]) (by rw [List.length_append,intsV_append]; rw [hik] at hq7; exact hq7) hs7
    obtain ⟨k1,k2⟩:=key { (({ p with came:=p.came + 1,work:=p.work + 1 }:PM).setI k { p.at k with q:=(p.at k).q ++ [t] }) with turn:=p.turn ++ [k] } rfl (by rw [hf,hqe]; rfl) rfl rfl rfl rfl
    exact hQ c7 σ7 ⟨hA7,⟨{ L with tv:=lv7,tf:=L.tf },_,rfl,hR7,k1,k2⟩,hX6.trans (hs7.frame (by intro q hq; simp at hq; rcases hq with rfl | rfl <;> rfl))⟩
   ·have hqe:(p.at k).q.isEmpty = false:=by
     cases hq:(p.at k).q with
     | nil => rw [hq] at h1; simp at h1
     | cons a q => rfl
    obtain ⟨k1,k2⟩:=key (({ p with came:=p.came + 1,work:=p.work + 1 }:PM).setI k { p.at k with q:=(p.at k).q ++ [t] }) rfl (by rw [hqe,Bool.and_false]; rfl) rfl rfl rfl rfl
    exact hQ c6 σ6 ⟨hA6,⟨L,_,rfl,hR6,k1,k2⟩,hX6⟩
  ·have hf:(p.at k).fr = false:=hf
   obtain ⟨k1,k2⟩:=key (({ p with came:=p.came + 1,work:=p.work + 1 }:PM).setI k { p.at k with q:=(p.at k).q ++ [t] }) rfl (by rw [hf]; rfl) rfl rfl rfl rfl
   exact hQ c6 σ6 ⟨hA6,⟨L,_,rfl,hR6,k1,k2⟩,hX6⟩
end
end Go.V
