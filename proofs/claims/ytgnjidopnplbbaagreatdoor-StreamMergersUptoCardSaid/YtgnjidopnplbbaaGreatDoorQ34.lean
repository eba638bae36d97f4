import Derived.Test.YtgnjidopnplbbaaGreatDoorQ33
/- Conditions: the law's same; the law StreamMergers. -/
set_option maxRecDepth 1000000
set_option linter.unusedVariables false
namespace Go.V
open Go Go.Proofs

def H53 (E:Env):Hand:=hnd E annA noHints [(47,C47r),(48,C48r),(46,C46r),(54,C54r),(100,C100v),(101,C101v),(20,C20)]
theorem vc53 (B:Nat) (w0:World) (G:Nat -> AV) (M:Nat) (m:RM) (σ:State) (Q:AV -> State -> Prop):(bodyC (EV B w0 G) (H53 (EV B w0 G)) (fun _ _ _ _ => False) annA noHint 53 [.ptr M 0,.agg [.slice 4 (rL m.I) .any,.slice 1 (intsV m.turn) .any,.int .i64 (m.work:Int),.int .i64 (m.puts:Int)]] σ Q) =
 ((∃ c0:MH,(∃ M1:Nat,(∃ m2:RM,(([(AV.ptr (M) 0)] = [(AV.ptr (M1) 0)])/\
 (((At c0 σ)/\
 (MRep c0 M1 m2))/\
 ((Rf (TV.v (AV.agg [(AV.slice 4 (rL (RM.I m)) Cap.any),(AV.slice 1 (intsV (RM.turn m)) Cap.any),(AV.int .i64 ((RM.work m:Nat):Int)),(AV.int .i64 ((RM.puts m:Nat):Int))])))/\
 (∃ m3:RM,(([(AV.agg [(AV.slice 4 (rL (RM.I m)) Cap.any),(AV.slice 1 (intsV (RM.turn m)) Cap.any),(AV.int .i64 ((RM.work m:Nat):Int)),(AV.int .i64 ((RM.puts m:Nat):Int))])] = [(AV.agg [(AV.slice 4 (rL (RM.I m3)) Cap.any),(AV.slice 1 (intsV (RM.turn m3)) Cap.any),(AV.int .i64 ((RM.work m3:Nat):Int)),(AV.int .i64 ((RM.puts m3:Nat):Int))])])/\
 ((((List.length (RM.I m3)):Nat) <= 1000000)/\
 (bcase (((RM.done m2):Bool) == (RM.done m3))
 (∃ c4:MH,(∃ M5:Nat,(∃ m6:RM,(([(AV.ptr (M) 0)] = [(AV.ptr (M5) 0)])/\
 (((At c4 (State.untok σ))/\
 (MRep c4 M5 m6))/\
 (∀ c'7:MH,(∀ σ'8:State,(((At c'7 σ'8)/\
 ((MRep c'7 M5 m6)/\
 (Frame' c4 c'7))) -> ((Rf (TV.v (AV.agg [(AV.slice 4 (rL (RM.I m)) Cap.any),(AV.slice 1 (intsV (RM.turn m)) Cap.any),(AV.int .i64 ((RM.work m:Nat):Int)),(AV.int .i64 ((RM.puts m:Nat):Int))])))/\
 (∃ m9:RM,(([(AV.agg [(AV.slice 4 (rL (RM.I m)) Cap.any),(AV.slice 1 (intsV (RM.turn m)) Cap.any),(AV.int .i64 ((RM.work m:Nat):Int)),(AV.int .i64 ((RM.puts m:Nat):Int))])] = [(AV.agg [(AV.slice 4 (rL (RM.I m9)) Cap.any),(AV.slice 1 (intsV (RM.turn m9)) Cap.any),(AV.int .i64 ((RM.work m9:Nat):Int)),(AV.int .i64 ((RM.puts m9:Nat):Int))])])/\
 ((((List.length (RM.I m9)):Nat) <= 1000000)/\
 (∃ a10:List Int,(∃ b11:List Int,(([(AV.slice 1 (intsV (RM.inputs m6)) Cap.any),(AV.slice 1 (intsV (RM.inputs m9)) Cap.any)] = [(AV.slice 1 (intsZ a10) Cap.any),(AV.slice 1 (intsZ b11) Cap.any)])/\
 ((((List.length (a10)):Nat) <= 1000000)/\
 (bcase (decide ((a10) = (b11)))
 (∃ c12:MH,(∃ M13:Nat,(∃ m14:RM,(([(AV.ptr (M) 0)] = [(AV.ptr (M13) 0)])/\
 (((At c12 (State.untok (State.untok σ'8)))/\
 (MRep c12 M13 m14))/\
 (∀ σ'15:State,((At c12 σ'15) -> ((Rf (TV.l 3 1))/\
 ((Rf (TV.v (AV.slice 1 (intsV (RM.turn m)) Cap.any)))/\
 (∃ a16:List Int,(∃ b17:List Int,(([(AV.slice 1 (intsV (RM.turn m14)) Cap.any),(AV.slice 1 (intsV (RM.turn m)) Cap.any)] = [(AV.slice 1 (intsZ a16) Cap.any),(AV.slice 1 (intsZ b17) Cap.any)])/\
 ((((List.length (a16)):Nat) <= 1000000)/\
 (bcase (decide ((a16) = (b17)))
 (∃ c18:MH,(∃ M19:Nat,(∃ m20:RM,(([(AV.ptr (M) 0)] = [(AV.ptr (M19) 0)])/\
 (((At c18 (State.untok σ'15))/\
 (MRep c18 M19 m20))/\
 ((Rf (TV.l 3 2))/\
 ((Rf (TV.v (AV.int .i64 ((RM.work m:Nat):Int))))/\
 (Q (AV.bool ((((RM.work m20:Nat):Int):Int) == ((RM.work m:Nat):Int))) (State.untok σ'15)))))))))
 ((Rf (TV.v (AV.tuple [])))/\
 ((Rf (TV.v (AV.tuple [])))/\
 (Q (AV.bool false) (State.untok σ'15))))))))))))))))))
 ((Rf (TV.v (AV.tuple [])))/\
 ((Rf (TV.v (AV.tuple [])))/\
 ((Rf (TV.v (AV.tuple [])))/\
 ((Rf (TV.v (AV.tuple [])))/\
 (Q (AV.bool false) (State.untok (State.untok σ'8))))))))))))))))))))))))
 ((Rf (TV.v (AV.tuple [])))/\
 ((Rf (TV.v (AV.tuple [])))/\
 ((Rf (TV.v (AV.tuple [])))/\
 ((Rf (TV.v (AV.tuple [])))/\
 ((Rf (TV.v (AV.tuple [])))/\
 (Q (AV.bool false) (State.untok σ)))))))))))))))))):=by kernel_rfl
def C53:Contract:=fun args σ K => ∃ (c:MH) (M:Nat) (m:RM),args = [.ptr M 0,rmV m] /\ (At c σ /\ MRep c M m /\ XT c) /\ ∀ (c':MH) (σ':State),(At c' σ' /\ MRep c' M m /\ Frame' c c') -> K (.bool true) σ'

structure YM where
 σ:State
 c:MH
 M:Nat
 m:RM
 i:Nat
def H13 (E:Env):Hand:=hnd E annA noHints [(16,C16),(41,C41r),(49,C49v),(42,C42r),(50,C50v),(20,C20),(45,C45r),(51,C51w),(52,C52),(53,C53)]
def ls13 (N:Int) (l:List Ev) (I:YM -> Prop):LS YM where
 F y:=[(1,.l 1 0),(3,.v (.ptr y.M 0)),(4,.v (.int .i64 0)),(5,.l 5 0),(7,.v (.int .i64 (y.i:Int)))]
 FL y:=[(1,[.int .i64 N,.slice 7 (evL l) .any]),(5,[.slice 4 (rL y.m.I) .any,.slice 1 (intsV y.m.turn) .any,.int .i64 (y.m.work:Int),.int .i64 (y.m.puts:Int)])]
 S y:=y.σ
 I:=I
 μ y:=l.length - y.i
 Ex y e a σ:=match e with
  | .exit 0 => atF a [(3,.v (.ptr y.M 0)),(4,.v (.int .i64 0)),(5,.l 5 0)] [(5,[.slice 4 (rL y.m.I) .any,.slice 1 (intsV y.m.turn) .any,.int .i64 (y.m.work:Int),.int .i64 (y.m.puts:Int)])] (y.σ.Le σ)
  | _ => False
def ls13b (N:Int) (l:List Ev):LS Unit where
 F _:=[(1,.l 1 0),(3,.v .nilptr),(4,.v (.int .i64 1)),(5,.l 5 0),(7,.v (.int .i64 0))]
 FL _:=[(1,[.int .i64 N,.slice 7 (evL l) .any]),(5,[.slice 4 [] .any,.slice 1 [] .any,.int .i64 0,.int .i64 0])]
 S _:=noObj
 I _:=True
 μ _:=0
 Ex _ e a σ:=match e with
  | .exit 0 => atF a [(3,.v .nilptr),(4,.v (.int .i64 1))] [] (noObj.Le σ)
  | _ => False
def N13:FnHint:=hAt [(10,3,hEv)]
theorem fnParts_13:fnParts Tryz.prog [] 13 = [.loop (bodyOf (fnPart Tryz.prog [] 13 0))]:=by kernel_rfl
theorem vc13l (B:Nat) (w0:World) (G:Nat -> AV) (N:Int) (l:List Ev) (I:YM -> Prop) (y:YM):(wpX [] (EV B w0 G) (H13 (EV B w0 G)) (fun _ _ _ _ => False) (annA 13) N13 (bodyOf (fnPart Tryz.prog [] 13 0)) ((ls13 N l I).post y) (frm [(1,.l 1 0),(3,.v (.ptr y.M 0)),(4,.v (.int .i64 0)),(5,.l 5 0),(7,.v (.int .i64 (y.i:Int)))] [(1,[.int .i64 N,.slice 7 (evL l) .any]),(5,[.slice 4 (rL y.m.I) .any,.slice 1 (intsV y.m.turn) .any,.int .i64 (y.m.work:Int),.int .i64 (y.m.puts:Int)])]) y.σ) =
 ((bcase (decide ((((YM.i y:Nat):Int):Int) < (((List.length (evL l)):Nat):Int)))
 (bcase (decide ((((YM.i y:Nat):Int):Int) < 150))
 ((((0:Int) <= ((YM.i y:Nat):Int))/\
 ((((YM.i y:Nat):Int):Int) < (((List.length (evL l)):Nat):Int)))/\
 (∃ x0:Ev,(((AV.vptr (AV.cells (List.getD (evL l) (Int.toNat (↑(YM.i y):Int)) AV.undef))) = (AV.vptr [(AV.int .i64 (Ev.k x0)),(AV.int .i64 (Ev.i x0)),(AV.int .i64 (Ev.n x0)),(AV.int .i64 (T.k (Ev.t x0))),(AV.int .i64 (T.n (Ev.t x0))),(AV.str (T.s (Ev.t x0))),(AV.slice 4 (tcellL (T.l (Ev.t x0))) Cap.any)]))/\
 (bcase (((Ev.k x0):Int) == 3)
 (∃ c1:MH,(∃ M2:Nat,(∃ m3:RM,(∃ i4:Int,(∃ n5:Int,(([(AV.ptr (YM.M y) 0),(AV.int .i64 (Ev.i x0)),(AV.int .i64 (Ev.n x0))] = [(AV.ptr (M2) 0),(AV.int .i64 (i4)),(AV.int .i64 (n5))])/\
 (((At c1 (y.1))/\
 (MRep c1 M2 m3))/\
 (∀ c'6:MH,(∀ σ'7:State,(((At c'6 σ'7)/\
 ((MRep c'6 M2 (Prod.fst (RM.split m3 i4 n5)))/\
 (Frame' c1 c'6))) -> (∃ m8:RM,(∃ i9:Int,(∃ n10:Int,(([(AV.agg [(AV.slice 4 (rL (RM.I (YM.m y))) Cap.any),(AV.slice 1 (intsV (RM.turn (YM.m y))) Cap.any),(AV.int .i64 (((RM.work (YM.m y)):Nat):Int)),(AV.int .i64 (((RM.puts (YM.m y)):Nat):Int))]),(AV.int .i64 (Ev.i x0)),(AV.int .i64 (Ev.n x0))] = [(AV.agg [(AV.slice 4 (rL (RM.I m8)) Cap.any),(AV.slice 1 (intsV (RM.turn m8)) Cap.any),(AV.int .i64 ((RM.work m8:Nat):Int)),(AV.int .i64 ((RM.puts m8:Nat):Int))]),(AV.int .i64 (i9)),(AV.int .i64 (n10))])/\
 ((RM.Wf m8)/\
 (bcase (((Prod.snd (Prod.snd (RM.split m3 i4 n5))):Int) != (Prod.snd (Prod.snd (RM.split m8 i9 n10))))
 False
 (∃ a11:List Int,(∃ b12:List Int,(([(AV.slice 1 (intsV (Prod.fst (Prod.snd (RM.split m3 i4 n5)))) Cap.any),(AV.slice 1 (intsV (Prod.fst (Prod.snd (RM.split m8 i9 n10)))) Cap.any)] = [(AV.slice 1 (intsZ a11) Cap.any),(AV.slice 1 (intsZ b12) Cap.any)])/\
 ((((List.length (a11)):Nat) <= 1000000)/\
 (bcase (!(decide ((a11) = (b12))))
 False
 (∃ c13:MH,(∃ M14:Nat,(∃ m15:RM,(([(AV.ptr (YM.M y) 0),(AV.agg [(AV.slice 4 (rL (RM.I (Prod.fst (RM.split m8 i9 n10)))) Cap.any),(AV.slice 1 (intsV (RM.turn (Prod.fst (RM.split m8 i9 n10)))) Cap.any),(AV.int .i64 (((RM.work (Prod.fst (RM.split m8 i9 n10))):Nat):Int)),(AV.int .i64 (((RM.puts (Prod.fst (RM.split m8 i9 n10))):Nat):Int))])] = [(AV.ptr (M14) 0),(AV.agg [(AV.slice 4 (rL (RM.I m15)) Cap.any),(AV.slice 1 (intsV (RM.turn m15)) Cap.any),(AV.int .i64 ((RM.work m15:Nat):Int)),(AV.int .i64 ((RM.puts m15:Nat):Int))])])/\
 (((At c13 (State.untok (State.untok σ'7)))/\
 ((MRep c13 M14 m15)/\
 (XT c13)))/\
 (∀ c'16:MH,(∀ σ'17:State,(((At c'16 σ'17)/\
 ((MRep c'16 M14 m15)/\
 (Frame' c13 c'16))) -> (∃ x'18:YM,(((I (x'18))/\
 (((LS.μ (ls13 N l I) x'18):Nat) < (LS.μ (ls13 N l I) y)))/\
 ((Rf (TV.l 1 0))/\
 (((TV.v (AV.ptr (YM.M y) 0)) = (TV.v (AV.ptr (YM.M x'18) 0)))/\
 ((Rf (TV.v (AV.int .i64 0)))/\
 ((Rf (TV.l 5 0))/\
 (((TV.v (AV.int .i64 (IntKind.wrap .i64 (((YM.i y:Nat):Int) + 1)))) = (TV.v (AV.int .i64 ((YM.i x'18:Nat):Int))))/\
 ((Rf [(AV.int .i64 (N)),(AV.slice 7 (evL l) Cap.any)])/\
 (([(AV.slice 4 (rL (RM.I (Prod.fst (RM.split m8 i9 n10)))) Cap.any),(AV.slice 1 (intsV (RM.turn (Prod.fst (RM.split m8 i9 n10)))) Cap.any),(AV.int .i64 (((RM.work (Prod.fst (RM.split m8 i9 n10))):Nat):Int)),(AV.int .i64 (((RM.puts (Prod.fst (RM.split m8 i9 n10))):Nat):Int))] = [(AV.slice 4 (rL (RM.I (YM.m x'18))) Cap.any),(AV.slice 1 (intsV (RM.turn (YM.m x'18))) Cap.any),(AV.int .i64 (((RM.work (YM.m x'18)):Nat):Int)),(AV.int .i64 (((RM.puts (YM.m x'18)):Nat):Int))])/\
 (State.Le ((ls13 N l I).3 x'18) σ'17)))))))))))))))))))))))))))))))))))))))
 (bcase (decide (((Ev.k x0):Int) ≥ 1))
 (bcase (decide (((Ev.k x0):Int) <= 4))
 (∃ c1:MH,(∃ M2:Nat,(∃ m3:RM,(∃ e4:Ev,(([(AV.ptr (YM.M y) 0),(AV.agg [(AV.int .i64 (Ev.k x0)),(AV.int .i64 (Ev.i x0)),(AV.int .i64 (Ev.n x0)),(AV.int .i64 (T.k (Ev.t x0))),(AV.int .i64 (T.n (Ev.t x0))),(AV.str (T.s (Ev.t x0))),(AV.slice 4 (tcellL (T.l (Ev.t x0))) Cap.any)])] = [(AV.ptr (M2) 0),(AV.agg [(AV.int .i64 (Ev.k e4)),(AV.int .i64 (Ev.i e4)),(AV.int .i64 (Ev.n e4)),(AV.int .i64 (T.k (Ev.t e4))),(AV.int .i64 (T.n (Ev.t e4))),(AV.str (T.s (Ev.t e4))),(AV.slice 4 (tcellL (T.l (Ev.t e4))) Cap.any)])])/\
 (((At c1 (y.1))/\
 ((MRep c1 M2 m3)/\
 (XT c1)))/\
 (∀ c'5:MH,(∀ σ'6:State,(((At c'5 σ'6)/\
 ((MRep c'5 M2 (Prod.fst (RM.do m3 e4)))/\
 (Frame' c1 c'5))) -> (bcase (((Ev.k x0):Int) != 4)
 (bcase (((Ev.k x0):Int) == 1)
 (∃ m7:RM,(∃ e8:Ev,(∃ lv9:AV,(([(AV.agg [(AV.slice 4 (rL (RM.I (YM.m y))) Cap.any),(AV.slice 1 (intsV (RM.turn (YM.m y))) Cap.any),(AV.int .i64 (((RM.work (YM.m y)):Nat):Int)),(AV.int .i64 (((RM.puts (YM.m y)):Nat):Int))]),(AV.agg [(AV.int .i64 (Ev.k x0)),(AV.int .i64 (Ev.i x0)),(AV.int .i64 0),(AV.int .i64 (T.k (Ev.t x0))),(AV.int .i64 (T.n (Ev.t x0))),(AV.str (T.s (Ev.t x0))),(AV.slice 4 (tcellL (T.l (Ev.t x0))) Cap.any)])] = [(AV.agg [(AV.slice 4 (rL (RM.I m7)) Cap.any),(AV.slice 1 (intsV (RM.turn m7)) Cap.any),(AV.int .i64 ((RM.work m7:Nat):Int)),(AV.int .i64 ((RM.puts m7:Nat):Int))]),(AV.agg [(AV.int .i64 (Ev.k e8)),(AV.int .i64 (Ev.i e8)),(AV.int .i64 (Ev.n e8)),(AV.int .i64 (T.k (Ev.t e8))),(AV.int .i64 (T.n (Ev.t e8))),(AV.str (T.s (Ev.t e8))),(lv9)])])/\
 (((((lv9) = (AV.slice 4 (tcellL (T.l (Ev.t e8))) Cap.any)) \/ (((lv9) = AV.nilslice)/\
 ((T.l (Ev.t e8)) = [])))/\
 ((RM.Wf m7)/\
 (((T.bulk (Ev.t e8)):Nat) <= 1099511627776)))/\
 (bcase (((Prod.snd (Prod.snd (RM.do m3 e4))):Int) != (Prod.snd (Prod.snd (RM.doR m7 e8))))
 False
 (∃ l10:List (Nat × T),(([(AV.slice 5 (List.map itemC (Prod.fst (Prod.snd (RM.do m3 e4)))) Cap.any),(AV.slice 5 (itemsV (Prod.fst (Prod.snd (RM.doR m7 e8)))) Cap.any)] = [(AV.slice 5 (itemsV l10) Cap.any),(AV.slice 5 (itemsV l10) Cap.any)])/\
 (((((List.length (l10)):Nat) <= 1000000)/\
 (∀ x11:Nat × T,((x11 ∈ l10) -> (T.small (Prod.snd x11)))))/\
 (∃ c11:MH,(∃ M12:Nat,(∃ m13:RM,(([(AV.ptr (YM.M y) 0),(AV.agg [(AV.slice 4 (rL (RM.I (Prod.fst (RM.doR m7 e8)))) Cap.any),(AV.slice 1 (intsV (RM.turn (Prod.fst (RM.doR m7 e8)))) Cap.any),(AV.int .i64 (((RM.work (Prod.fst (RM.doR m7 e8))):Nat):Int)),(AV.int .i64 (((RM.puts (Prod.fst (RM.doR m7 e8))):Nat):Int))])] = [(AV.ptr (M12) 0),(AV.agg [(AV.slice 4 (rL (RM.I m13)) Cap.any),(AV.slice 1 (intsV (RM.turn m13)) Cap.any),(AV.int .i64 ((RM.work m13:Nat):Int)),(AV.int .i64 ((RM.puts m13:Nat):Int))])])/\
 (((At c11 (State.untok (State.untok σ'6)))/\
 ((MRep c11 M12 m13)/\
 (XT c11)))/\
 (∀ c'14:MH,(∀ σ'15:State,(((At c'14 σ'15)/\
 ((MRep c'14 M12 m13)/\
 (Frame' c11 c'14))) -> (∃ x'16:YM,(((I (x'16))/\
 (((LS.μ (ls13 N l I) x'16):Nat) < (LS.μ (ls13 N l I) y)))/\
 ((Rf (TV.l 1 0))/\
 (((TV.v (AV.ptr (YM.M y) 0)) = (TV.v (AV.ptr (YM.M x'16) 0)))/\
 ((Rf (TV.v (AV.int .i64 0)))/\
 ((Rf (TV.l 5 0))/\
 (((TV.v (AV.int .i64 (IntKind.wrap .i64 (((YM.i y:Nat):Int) + 1)))) = (TV.v (AV.int .i64 ((YM.i x'16:Nat):Int))))/\
 ((Rf [(AV.int .i64 (N)),(AV.slice 7 (evL l) Cap.any)])/\
 (([(AV.slice 4 (rL (RM.I (Prod.fst (RM.doR m7 e8)))) Cap.any),(AV.slice 1 (intsV (RM.turn (Prod.fst (RM.doR m7 e8)))) Cap.any),(AV.int .i64 (((RM.work (Prod.fst (RM.doR m7 e8))):Nat):Int)),(AV.int .i64 (((RM.puts (Prod.fst (RM.doR m7 e8))):Nat):Int))] = [(AV.slice 4 (rL (RM.I (YM.m x'16))) Cap.any),(AV.slice 1 (intsV (RM.turn (YM.m x'16))) Cap.any),(AV.int .i64 (((RM.work (YM.m x'16)):Nat):Int)),(AV.int .i64 (((RM.puts (YM.m x'16)):Nat):Int))])/\
 (State.Le ((ls13 N l I).3 x'16) σ'15)))))))))))))))))))))))))))
 (∃ m7:RM,(∃ e8:Ev,(∃ lv9:AV,(([(AV.agg [(AV.slice 4 (rL (RM.I (YM.m y))) Cap.any),(AV.slice 1 (intsV (RM.turn (YM.m y))) Cap.any),(AV.int .i64 (((RM.work (YM.m y)):Nat):Int)),(AV.int .i64 (((RM.puts (YM.m y)):Nat):Int))]),(AV.agg [(AV.int .i64 (Ev.k x0)),(AV.int .i64 (Ev.i x0)),(AV.int .i64 0),(AV.int .i64 0),(AV.int .i64 0),(AV.str ⟨⟨[]⟩⟩),AV.nilslice])] = [(AV.agg [(AV.slice 4 (rL (RM.I m7)) Cap.any),(AV.slice 1 (intsV (RM.turn m7)) Cap.any),(AV.int .i64 ((RM.work m7:Nat):Int)),(AV.int .i64 ((RM.puts m7:Nat):Int))]),(AV.agg [(AV.int .i64 (Ev.k e8)),(AV.int .i64 (Ev.i e8)),(AV.int .i64 (Ev.n e8)),(AV.int .i64 (T.k (Ev.t e8))),(AV.int .i64 (T.n (Ev.t e8))),(AV.str (T.s (Ev.t e8))),(lv9)])])/\
 (((((lv9) = (AV.slice 4 (tcellL (T.l (Ev.t e8))) Cap.any)) \/ (((lv9) = AV.nilslice)/\
 ((T.l (Ev.t e8)) = [])))/\
 ((RM.Wf m7)/\
 (((T.bulk (Ev.t e8)):Nat) <= 1099511627776)))/\
 (bcase (((Prod.snd (Prod.snd (RM.do m3 e4))):Int) != (Prod.snd (Prod.snd (RM.doR m7 e8))))
 False
 (∃ l10:List (Nat × T),(([(AV.slice 5 (List.map itemC (Prod.fst (Prod.snd (RM.do m3 e4)))) Cap.any),(AV.slice 5 (itemsV (Prod.fst (Prod.snd (RM.doR m7 e8)))) Cap.any)] = [(AV.slice 5 (itemsV l10) Cap.any),(AV.slice 5 (itemsV l10) Cap.any)])/\
 (((((List.length (l10)):Nat) <= 1000000)/\
 (∀ x11:Nat × T,((x11 ∈ l10) -> (T.small (Prod.snd x11)))))/\
 (∃ c11:MH,(∃ M12:Nat,(∃ m13:RM,(([(AV.ptr (YM.M y) 0),(AV.agg [(AV.slice 4 (rL (RM.I (Prod.fst (RM.doR m7 e8)))) Cap.any),(AV.slice 1 (intsV (RM.turn (Prod.fst (RM.doR m7 e8)))) Cap.any),(AV.int .i64 (((RM.work (Prod.fst (RM.doR m7 e8))):Nat):Int)),(AV.int .i64 (((RM.puts (Prod.fst (RM.doR m7 e8))):Nat):Int))])] = [(AV.ptr (M12) 0),(AV.agg [(AV.slice 4 (rL (RM.I m13)) Cap.any),(AV.slice 1 (intsV (RM.turn m13)) Cap.any),(AV.int .i64 ((RM.work m13:Nat):Int)),(AV.int .i64 ((RM.puts m13:Nat):Int))])])/\
 (((At c11 (State.untok (State.untok σ'6)))/\
 ((MRep c11 M12 m13)/\
 (XT c11)))/\
 (∀ c'14:MH,(∀ σ'15:State,(((At c'14 σ'15)/\
 ((MRep c'14 M12 m13)/\
 (Frame' c11 c'14))) -> (∃ x'16:YM,(((I (x'16))/\
 (((LS.μ (ls13 N l I) x'16):Nat) < (LS.μ (ls13 N l I) y)))/\
 ((Rf (TV.l 1 0))/\
 (((TV.v (AV.ptr (YM.M y) 0)) = (TV.v (AV.ptr (YM.M x'16) 0)))/\
 ((Rf (TV.v (AV.int .i64 0)))/\
 ((Rf (TV.l 5 0))/\
 (((TV.v (AV.int .i64 (IntKind.wrap .i64 (((YM.i y:Nat):Int) + 1)))) = (TV.v (AV.int .i64 ((YM.i x'16:Nat):Int))))/\
 ((Rf [(AV.int .i64 (N)),(AV.slice 7 (evL l) Cap.any)])/\
 (([(AV.slice 4 (rL (RM.I (Prod.fst (RM.doR m7 e8)))) Cap.any),(AV.slice 1 (intsV (RM.turn (Prod.fst (RM.doR m7 e8)))) Cap.any),(AV.int .i64 (((RM.work (Prod.fst (RM.doR m7 e8))):Nat):Int)),(AV.int .i64 (((RM.puts (Prod.fst (RM.doR m7 e8))):Nat):Int))] = [(AV.slice 4 (rL (RM.I (YM.m x'16))) Cap.any),(AV.slice 1 (intsV (RM.turn (YM.m x'16))) Cap.any),(AV.int .i64 (((RM.work (YM.m x'16)):Nat):Int)),(AV.int .i64 (((RM.puts (YM.m x'16)):Nat):Int))])/\
 (State.Le ((ls13 N l I).3 x'16) σ'15))))))))))))))))))))))))))))
 (bcase (((Ev.k x0):Int) == 1)
 (∃ m7:RM,(∃ e8:Ev,(∃ lv9:AV,(([(AV.agg [(AV.slice 4 (rL (RM.I (YM.m y))) Cap.any),(AV.slice 1 (intsV (RM.turn (YM.m y))) Cap.any),(AV.int .i64 (((RM.work (YM.m y)):Nat):Int)),(AV.int .i64 (((RM.puts (YM.m y)):Nat):Int))]),(AV.agg [(AV.int .i64 (Ev.k x0)),(AV.int .i64 0),(AV.int .i64 0),(AV.int .i64 (T.k (Ev.t x0))),(AV.int .i64 (T.n (Ev.t x0))),(AV.str (T.s (Ev.t x0))),(AV.slice 4 (tcellL (T.l (Ev.t x0))) Cap.any)])] = [(AV.agg [(AV.slice 4 (rL (RM.I m7)) Cap.any),(AV.slice 1 (intsV (RM.turn m7)) Cap.any),(AV.int .i64 ((RM.work m7:Nat):Int)),(AV.int .i64 ((RM.puts m7:Nat):Int))]),(AV.agg [(AV.int .i64 (Ev.k e8)),(AV.int .i64 (Ev.i e8)),(AV.int .i64 (Ev.n e8)),(AV.int .i64 (T.k (Ev.t e8))),(AV.int .i64 (T.n (Ev.t e8))),(AV.str (T.s (Ev.t e8))),(lv9)])])/\
 (((((lv9) = (AV.slice 4 (tcellL (T.l (Ev.t e8))) Cap.any)) \/ (((lv9) = AV.nilslice)/\
 ((T.l (Ev.t e8)) = [])))/\
 ((RM.Wf m7)/\
 (((T.bulk (Ev.t e8)):Nat) <= 1099511627776)))/\
 (bcase (((Prod.snd (Prod.snd (RM.do m3 e4))):Int) != (Prod.snd (Prod.snd (RM.doR m7 e8))))
 False
 (∃ l10:List (Nat × T),(([(AV.slice 5 (List.map itemC (Prod.fst (Prod.snd (RM.do m3 e4)))) Cap.any),(AV.slice 5 (itemsV (Prod.fst (Prod.snd (RM.doR m7 e8)))) Cap.any)] = [(AV.slice 5 (itemsV l10) Cap.any),(AV.slice 5 (itemsV l10) Cap.any)])/\
 (((((List.length (l10)):Nat) <= 1000000)/\
 (∀ x11:Nat × T,((x11 ∈ l10) -> (T.small (Prod.snd x11)))))/\
 (∃ c11:MH,(∃ M12:Nat,(∃ m13:RM,(([(AV.ptr (YM.M y) 0),(AV.agg [(AV.slice 4 (rL (RM.I (Prod.fst (RM.doR m7 e8)))) Cap.any),(AV.slice 1 (intsV (RM.turn (Prod.fst (RM.doR m7 e8)))) Cap.any),(AV.int .i64 (((RM.work (Prod.fst (RM.doR m7 e8))):Nat):Int)),(AV.int .i64 (((RM.puts (Prod.fst (RM.doR m7 e8))):Nat):Int))])] = [(AV.ptr (M12) 0),(AV.agg [(AV.slice 4 (rL (RM.I m13)) Cap.any),(AV.slice 1 (intsV (RM.turn m13)) Cap.any),(AV.int .i64 ((RM.work m13:Nat):Int)),(AV.int .i64 ((RM.puts m13:Nat):Int))])])/\
 (((At c11 (State.untok (State.untok σ'6)))/\
 ((MRep c11 M12 m13)/\
 (XT c11)))/\
 (∀ c'14:MH,(∀ σ'15:State,(((At c'14 σ'15)/\
 ((MRep c'14 M12 m13)/\
 (Frame' c11 c'14))) -> (∃ x'16:YM,(((I (x'16))/\
 (((LS.μ (ls13 N l I) x'16):Nat) < (LS.μ (ls13 N l I) y)))/\
 ((Rf (TV.l 1 0))/\
 (((TV.v (AV.ptr (YM.M y) 0)) = (TV.v (AV.ptr (YM.M x'16) 0)))/\
 ((Rf (TV.v (AV.int .i64 0)))/\
 ((Rf (TV.l 5 0))/\
 (((TV.v (AV.int .i64 (IntKind.wrap .i64 (((YM.i y:Nat):Int) + 1)))) = (TV.v (AV.int .i64 ((YM.i x'16:Nat):Int))))/\
 ((Rf [(AV.int .i64 (N)),(AV.slice 7 (evL l) Cap.any)])/\
 (([(AV.slice 4 (rL (RM.I (Prod.fst (RM.doR m7 e8)))) Cap.any),(AV.slice 1 (intsV (RM.turn (Prod.fst (RM.doR m7 e8)))) Cap.any),(AV.int .i64 (((RM.work (Prod.fst (RM.doR m7 e8))):Nat):Int)),(AV.int .i64 (((RM.puts (Prod.fst (RM.doR m7 e8))):Nat):Int))] = [(AV.slice 4 (rL (RM.I (YM.m x'16))) Cap.any),(AV.slice 1 (intsV (RM.turn (YM.m x'16))) Cap.any),(AV.int .i64 (((RM.work (YM.m x'16)):Nat):Int)),(AV.int .i64 (((RM.puts (YM.m x'16)):Nat):Int))])/\
 (State.Le ((ls13 N l I).3 x'16) σ'15)))))))))))))))))))))))))))
 (∃ m7:RM,(∃ e8:Ev,(∃ lv9:AV,(([(AV.agg [(AV.slice 4 (rL (RM.I (YM.m y))) Cap.any),(AV.slice 1 (intsV (RM.turn (YM.m y))) Cap.any),(AV.int .i64 (((RM.work (YM.m y)):Nat):Int)),(AV.int .i64 (((RM.puts (YM.m y)):Nat):Int))]),(AV.agg [(AV.int .i64 (Ev.k x0)),(AV.int .i64 0),(AV.int .i64 0),(AV.int .i64 0),(AV.int .i64 0),(AV.str ⟨⟨[]⟩⟩),AV.nilslice])] = [(AV.agg [(AV.slice 4 (rL (RM.I m7)) Cap.any),(AV.slice 1 (intsV (RM.turn m7)) Cap.any),(AV.int .i64 ((RM.work m7:Nat):Int)),(AV.int .i64 ((RM.puts m7:Nat):Int))]),(AV.agg [(AV.int .i64 (Ev.k e8)),(AV.int .i64 (Ev.i e8)),(AV.int .i64 (Ev.n e8)),(AV.int .i64 (T.k (Ev.t e8))),(AV.int .i64 (T.n (Ev.t e8))),(AV.str (T.s (Ev.t e8))),(lv9)])])/\
 (((((lv9) = (AV.slice 4 (tcellL (T.l (Ev.t e8))) Cap.any)) \/ (((lv9) = AV.nilslice)/\
 ((T.l (Ev.t e8)) = [])))/\
 ((RM.Wf m7)/\
 (((T.bulk (Ev.t e8)):Nat) <= 1099511627776)))/\
 (bcase (((Prod.snd (Prod.snd (RM.do m3 e4))):Int) != (Prod.snd (Prod.snd (RM.doR m7 e8))))
 False
 (∃ l10:List (Nat × T),(([(AV.slice 5 (List.map itemC (Prod.fst (Prod.snd (RM.do m3 e4)))) Cap.any),(AV.slice 5 (itemsV (Prod.fst (Prod.snd (RM.doR m7 e8)))) Cap.any)] = [(AV.slice 5 (itemsV l10) Cap.any),(AV.slice 5 (itemsV l10) Cap.any)])/\
 (((((List.length (l10)):Nat) <= 1000000)/\
 (∀ x11:Nat × T,((x11 ∈ l10) -> (T.small (Prod.snd x11)))))/\
 (∃ c11:MH,(∃ M12:Nat,(∃ m13:RM,(([(AV.ptr (YM.M y) 0),(AV.agg [(AV.slice 4 (rL (RM.I (Prod.fst (RM.doR m7 e8)))) Cap.any),(AV.slice 1 (intsV (RM.turn (Prod.fst (RM.doR m7 e8)))) Cap.any),(AV.int .i64 (((RM.work (Prod.fst (RM.doR m7 e8))):Nat):Int)),(AV.int .i64 (((RM.puts (Prod.fst (RM.doR m7 e8))):Nat):Int))])] = [(AV.ptr (M12) 0),(AV.agg [(AV.slice 4 (rL (RM.I m13)) Cap.any),(AV.slice 1 (intsV (RM.turn m13)) Cap.any),(AV.int .i64 ((RM.work m13:Nat):Int)),(AV.int .i64 ((RM.puts m13:Nat):Int))])])/\
 (((At c11 (State.untok (State.untok σ'6)))/\
 ((MRep c11 M12 m13)/\
 (XT c11)))/\
 (∀ c'14:MH,(∀ σ'15:State,(((At c'14 σ'15)/\
 ((MRep c'14 M12 m13)/\
 (Frame' c11 c'14))) -> (∃ x'16:YM,(((I (x'16))/\
 (((LS.μ (ls13 N l I) x'16):Nat) < (LS.μ (ls13 N l I) y)))/\
 ((Rf (TV.l 1 0))/\
 (((TV.v (AV.ptr (YM.M y) 0)) = (TV.v (AV.ptr (YM.M x'16) 0)))/\
 ((Rf (TV.v (AV.int .i64 0)))/\
 ((Rf (TV.l 5 0))/\
 (((TV.v (AV.int .i64 (IntKind.wrap .i64 (((YM.i y:Nat):Int) + 1)))) = (TV.v (AV.int .i64 ((YM.i x'16:Nat):Int))))/\
 ((Rf [(AV.int .i64 (N)),(AV.slice 7 (evL l) Cap.any)])/\
 (([(AV.slice 4 (rL (RM.I (Prod.fst (RM.doR m7 e8)))) Cap.any),(AV.slice 1 (intsV (RM.turn (Prod.fst (RM.doR m7 e8)))) Cap.any),(AV.int .i64 (((RM.work (Prod.fst (RM.doR m7 e8))):Nat):Int)),(AV.int .i64 (((RM.puts (Prod.fst (RM.doR m7 e8))):Nat):Int))] = [(AV.slice 4 (rL (RM.I (YM.m x'16))) Cap.any),(AV.slice 1 (intsV (RM.turn (YM.m x'16))) Cap.any),(AV.int .i64 (((RM.work (YM.m x'16)):Nat):Int)),(AV.int .i64 (((RM.puts (YM.m x'16)):Nat):Int))])/\
 (State.Le ((ls13 N l I).3 x'16) σ'15))))))))))))))))))))))))))))))))))))))
 (∃ c1:MH,(∃ M2:Nat,(∃ m3:RM,(([(AV.ptr (YM.M y) 0),(AV.agg [(AV.slice 4 (rL (RM.I (YM.m y))) Cap.any),(AV.slice 1 (intsV (RM.turn (YM.m y))) Cap.any),(AV.int .i64 (((RM.work (YM.m y)):Nat):Int)),(AV.int .i64 (((RM.puts (YM.m y)):Nat):Int))])] = [(AV.ptr (M2) 0),(AV.agg [(AV.slice 4 (rL (RM.I m3)) Cap.any),(AV.slice 1 (intsV (RM.turn m3)) Cap.any),(AV.int .i64 ((RM.work m3:Nat):Int)),(AV.int .i64 ((RM.puts m3:Nat):Int))])])/\
 (((At c1 (y.1))/\
 ((MRep c1 M2 m3)/\
 (XT c1)))/\
 (∀ c'4:MH,(∀ σ'5:State,(((At c'4 σ'5)/\
 ((MRep c'4 M2 m3)/\
 (Frame' c1 c'4))) -> (∃ x'6:YM,(((I (x'6))/\
 (((LS.μ (ls13 N l I) x'6):Nat) < (LS.μ (ls13 N l I) y)))/\
 ((Rf (TV.l 1 0))/\
 (((TV.v (AV.ptr (YM.M y) 0)) = (TV.v (AV.ptr (YM.M x'6) 0)))/\
 ((Rf (TV.v (AV.int .i64 0)))/\
 ((Rf (TV.l 5 0))/\
 (((TV.v (AV.int .i64 (IntKind.wrap .i64 (((YM.i y:Nat):Int) + 1)))) = (TV.v (AV.int .i64 ((YM.i x'6:Nat):Int))))/\
 ((Rf [(AV.int .i64 (N)),(AV.slice 7 (evL l) Cap.any)])/\
 (([(AV.slice 4 (rL (RM.I (YM.m y))) Cap.any),(AV.slice 1 (intsV (RM.turn (YM.m y))) Cap.any),(AV.int .i64 (((RM.work (YM.m y)):Nat):Int)),(AV.int .i64 (((RM.puts (YM.m y)):Nat):Int))] = [(AV.slice 4 (rL (RM.I (YM.m x'6))) Cap.any),(AV.slice 1 (intsV (RM.turn (YM.m x'6))) Cap.any),(AV.int .i64 (((RM.work (YM.m x'6)):Nat):Int)),(AV.int .i64 (((RM.puts (YM.m x'6)):Nat):Int))])/\
 (State.Le ((ls13 N l I).3 x'6) σ'5)))))))))))))))))))
 (∃ c1:MH,(∃ M2:Nat,(∃ m3:RM,(([(AV.ptr (YM.M y) 0),(AV.agg [(AV.slice 4 (rL (RM.I (YM.m y))) Cap.any),(AV.slice 1 (intsV (RM.turn (YM.m y))) Cap.any),(AV.int .i64 (((RM.work (YM.m y)):Nat):Int)),(AV.int .i64 (((RM.puts (YM.m y)):Nat):Int))])] = [(AV.ptr (M2) 0),(AV.agg [(AV.slice 4 (rL (RM.I m3)) Cap.any),(AV.slice 1 (intsV (RM.turn m3)) Cap.any),(AV.int .i64 ((RM.work m3:Nat):Int)),(AV.int .i64 ((RM.puts m3:Nat):Int))])])/\
 (((At c1 (y.1))/\
 ((MRep c1 M2 m3)/\
 (XT c1)))/\
 (∀ c'4:MH,(∀ σ'5:State,(((At c'4 σ'5)/\
 ((MRep c'4 M2 m3)/\
 (Frame' c1 c'4))) -> (∃ x'6:YM,(((I (x'6))/\
 (((LS.μ (ls13 N l I) x'6):Nat) < (LS.μ (ls13 N l I) y)))/\
 ((Rf (TV.l 1 0))/\
 (((TV.v (AV.ptr (YM.M y) 0)) = (TV.v (AV.ptr (YM.M x'6) 0)))/\
 ((Rf (TV.v (AV.int .i64 0)))/\
 ((Rf (TV.l 5 0))/\
 (((TV.v (AV.int .i64 (IntKind.wrap .i64 (((YM.i y:Nat):Int) + 1)))) = (TV.v (AV.int .i64 ((YM.i x'6:Nat):Int))))/\
 ((Rf [(AV.int .i64 (N)),(AV.slice 7 (evL l) Cap.any)])/\
 (([(AV.slice 4 (rL (RM.I (YM.m y))) Cap.any),(AV.slice 1 (intsV (RM.turn (YM.m y))) Cap.any),(AV.int .i64 (((RM.work (YM.m y)):Nat):Int)),(AV.int .i64 (((RM.puts (YM.m y)):Nat):Int))] = [(AV.slice 4 (rL (RM.I (YM.m x'6))) Cap.any),(AV.slice 1 (intsV (RM.turn (YM.m x'6))) Cap.any),(AV.int .i64 (((RM.work (YM.m x'6)):Nat):Int)),(AV.int .i64 (((RM.puts (YM.m x'6)):Nat):Int))])/\
 (State.Le ((ls13 N l I).3 x'6) σ'5)))))))))))))))))))))))
 ((Rf (TV.v (AV.ptr (YM.M y) 0)))/\
 ((Rf (TV.v (AV.int .i64 0)))/\
 ((Rf (TV.l 5 0))/\
 ((Rf [(AV.slice 4 (rL (RM.I (YM.m y))) Cap.any),(AV.slice 1 (intsV (RM.turn (YM.m y))) Cap.any),(AV.int .i64 (((RM.work (YM.m y)):Nat):Int)),(AV.int .i64 (((RM.puts (YM.m y)):Nat):Int))])/\
 (State.Le (y.1) (y.1)))))))
 ((Rf (TV.v (AV.ptr (YM.M y) 0)))/\
 ((Rf (TV.v (AV.int .i64 0)))/\
 ((Rf (TV.l 5 0))/\
 ((Rf [(AV.slice 4 (rL (RM.I (YM.m y))) Cap.any),(AV.slice 1 (intsV (RM.turn (YM.m y))) Cap.any),(AV.int .i64 (((RM.work (YM.m y)):Nat):Int)),(AV.int .i64 (((RM.puts (YM.m y)):Nat):Int))])/\
 (State.Le (y.1) (y.1)))))))):=by kernel_rfl
theorem vc13b (B:Nat) (w0:World) (G:Nat -> AV) (N:Int) (l:List Ev):(wpX [] (EV B w0 G) (H13 (EV B w0 G)) (fun _ _ _ _ => False) (annA 13) N13 (bodyOf (fnPart Tryz.prog [] 13 0)) ((ls13b N l).post ()) (frm [(1,.l 1 0),(3,.v .nilptr),(4,.v (.int .i64 1)),(5,.l 5 0),(7,.v (.int .i64 0))] [(1,[.int .i64 N,.slice 7 (evL l) .any]),(5,[.slice 4 [] .any,.slice 1 [] .any,.int .i64 0,.int .i64 0])]) noObj) =
 ((bcase (decide ((0:Int) < (((List.length (evL l)):Nat):Int)))
 ((Rf (TV.v AV.nilptr))/\
 ((Rf (TV.v (AV.int .i64 1)))/\
 (State.Le (noObj) (noObj))))
 ((Rf (TV.v AV.nilptr))/\
 ((Rf (TV.v (AV.int .i64 1)))/\
 (State.Le (noObj) (noObj)))))):=by kernel_rfl
def T13 (N:Int) (l:List Ev) (I:YM -> Prop):LHand:=fun _ Q a σ =>
 (atF a ((ls13b N l).F ()) ((ls13b N l).FL ()) (noObj.Le σ) /\ Q (.exit 0) (frm [(3,.v .nilptr),(4,.v (.int .i64 1))] []) noObj) \/
 (∃ y:YM,I y /\ atF a ((ls13 N l I).F y) ((ls13 N l I).FL y) (y.σ.Le σ) /\ ∀ y':YM,I y' -> Q (.exit 0) (frm [(3,.v (.ptr y'.M 0)),(4,.v (.int .i64 0)),(5,.l 5 0)] [(5,[.slice 4 (rL y'.m.I) .any,.slice 1 (intsV y'.m.turn) .any,.int .i64 (y'.m.work:Int),.int .i64 (y'.m.puts:Int)])]) y'.σ)
theorem vc13 (B:Nat) (w0:World) (G:Nat -> AV) (N:Int) (l:List Ev) (I:YM -> Prop) (Q:AV -> State -> Prop):(bodyX [] (EV B w0 G) (H13 (EV B w0 G)) (T13 N l I) annA N13 13 [.agg [.int .i64 N,.slice 7 (evL l) .any]] noObj Q) =
 (((([]:List AV) = [])/\
 (∃ c0:MH,(∃ n1:Int,(([(AV.int .i64 (N))] = [(AV.int .i64 (n1))])/\
 ((At c0 (State.untok (noObj)))/\
 ((((((n1):Int) < 0) \/ ((64:Int) < (n1))) -> (∃ n2:Int,(([(AV.int .i64 (N))] = [(AV.int .i64 (n2))])/\
 (((((0:Int) <= (n2))/\
 (((n2):Int) <= 64)) -> (Q (AV.bool false) (State.untok (State.untok (noObj)))))/\
 (((((0:Int) <= (n2))/\
 (((n2):Int) <= 64)) -> False) -> ((((Rf (TV.l 1 0))/\
 ((Rf (TV.v AV.nilptr))/\
 ((Rf (TV.v (AV.int .i64 1)))/\
 ((Rf (TV.l 5 0))/\
 ((Rf (TV.v (AV.int .i64 0)))/\
 ((Rf [(AV.int .i64 (N)),(AV.slice 7 (evL l) Cap.any)])/\
 ((Rf [(AV.slice 4 [] Cap.any),(AV.slice 1 [] Cap.any),(AV.int .i64 0),(AV.int .i64 0)])/\
 (State.Le (noObj) (State.untok (State.untok (noObj)))))))))))/\
 (Q (AV.bool true) (noObj))) \/ (∃ y3:YM,((I (y3))/\
 (((Rf (TV.l 1 0))/\
 (((TV.v AV.nilptr) = (TV.v (AV.ptr (YM.M y3) 0)))/\
 (((TV.v (AV.int .i64 1)) = (TV.v (AV.int .i64 0)))/\
 ((Rf (TV.l 5 0))/\
 (((TV.v (AV.int .i64 0)) = (TV.v (AV.int .i64 ((YM.i y3:Nat):Int))))/\
 ((Rf [(AV.int .i64 (N)),(AV.slice 7 (evL l) Cap.any)])/\
 (([(AV.slice 4 [] Cap.any),(AV.slice 1 [] Cap.any),(AV.int .i64 0),(AV.int .i64 0)] = [(AV.slice 4 (rL (RM.I (YM.m y3))) Cap.any),(AV.slice 1 (intsV (RM.turn (YM.m y3))) Cap.any),(AV.int .i64 (((RM.work (YM.m y3)):Nat):Int)),(AV.int .i64 (((RM.puts (YM.m y3)):Nat):Int))])/\
 (State.Le (y3.1) (State.untok (State.untok (noObj)))))))))))/\
 (∀ y'4:YM,((I (y'4)) -> (∃ c5:MH,(∃ M6:Nat,(∃ m7:RM,(([(AV.ptr (YM.M y'4) 0),(AV.agg [(AV.slice 4 (rL (RM.I (YM.m y'4))) Cap.any),(AV.slice 1 (intsV (RM.turn (YM.m y'4))) Cap.any),(AV.int .i64 (((RM.work (YM.m y'4)):Nat):Int)),(AV.int .i64 (((RM.puts (YM.m y'4)):Nat):Int))])] = [(AV.ptr (M6) 0),(AV.agg [(AV.slice 4 (rL (RM.I m7)) Cap.any),(AV.slice 1 (intsV (RM.turn m7)) Cap.any),(AV.int .i64 ((RM.work m7:Nat):Int)),(AV.int .i64 ((RM.puts m7:Nat):Int))])])/\
 (((At c5 (y'4.1))/\
 ((MRep c5 M6 m7)/\
 (XT c5)))/\
 (∀ c'8:MH,(∀ σ'9:State,(((At c'8 σ'9)/\
 ((MRep c'8 M6 m7)/\
 (Frame' c5 c'8))) -> (Q (AV.bool true) σ'9))))))))))))))))))))/\
 ((((0:Int) <= (n1))/\
 (((n1):Int) <= 64)) -> (∀ c'2:MH,(∀ σ'3:State,(∀ M4:Nat,(((At c'2 σ'3)/\
 ((MRep c'2 M4 (RM.new (Int.toNat n1)))/\
 (Frame' c0 c'2))) -> (∃ n5:Int,(([(AV.int .i64 (N))] = [(AV.int .i64 (n5))])/\
 (((((0:Int) <= (n5))/\
 (((n5):Int) <= 64)) -> ((((Rf (TV.l 1 0))/\
 (((TV.v (AV.ptr (M4) 0)) = (TV.v AV.nilptr))/\
 (((TV.v (AV.int .i64 0)) = (TV.v (AV.int .i64 1)))/\
 ((Rf (TV.l 5 0))/\
 ((Rf (TV.v (AV.int .i64 0)))/\
 ((Rf [(AV.int .i64 (N)),(AV.slice 7 (evL l) Cap.any)])/\
 (([(AV.slice 4 (rL (RM.I (RM.new (Int.toNat n5)))) Cap.any),(AV.slice 1 [] Cap.any),(AV.int .i64 (((RM.work (RM.new (Int.toNat n5))):Nat):Int)),(AV.int .i64 0)] = [(AV.slice 4 [] Cap.any),(AV.slice 1 [] Cap.any),(AV.int .i64 0),(AV.int .i64 0)])/\
 (State.Le (noObj) (State.untok σ'3)))))))))/\
 (Q (AV.bool true) (noObj))) \/ (∃ y6:YM,((I (y6))/\
 (((Rf (TV.l 1 0))/\
 (((TV.v (AV.ptr (M4) 0)) = (TV.v (AV.ptr (YM.M y6) 0)))/\
 ((Rf (TV.v (AV.int .i64 0)))/\
 ((Rf (TV.l 5 0))/\
 (((TV.v (AV.int .i64 0)) = (TV.v (AV.int .i64 ((YM.i y6:Nat):Int))))/\
 ((Rf [(AV.int .i64 (N)),(AV.slice 7 (evL l) Cap.any)])/\
 (([(AV.slice 4 (rL (RM.I (RM.new (Int.toNat n5)))) Cap.any),(AV.slice 1 [] Cap.any),(AV.int .i64 (((RM.work (RM.new (Int.toNat n5))):Nat):Int)),(AV.int .i64 0)] = [(AV.slice 4 (rL (RM.I (YM.m y6))) Cap.any),(AV.slice 1 (intsV (RM.turn (YM.m y6))) Cap.any),(AV.int .i64 (((RM.work (YM.m y6)):Nat):Int)),(AV.int .i64 (((RM.puts (YM.m y6)):Nat):Int))])/\
 (State.Le (y6.1) (State.untok σ'3)))))))))/\
 (∀ y'7:YM,((I (y'7)) -> (∃ c8:MH,(∃ M9:Nat,(∃ m10:RM,(([(AV.ptr (YM.M y'7) 0),(AV.agg [(AV.slice 4 (rL (RM.I (YM.m y'7))) Cap.any),(AV.slice 1 (intsV (RM.turn (YM.m y'7))) Cap.any),(AV.int .i64 (((RM.work (YM.m y'7)):Nat):Int)),(AV.int .i64 (((RM.puts (YM.m y'7)):Nat):Int))])] = [(AV.ptr (M9) 0),(AV.agg [(AV.slice 4 (rL (RM.I m10)) Cap.any),(AV.slice 1 (intsV (RM.turn m10)) Cap.any),(AV.int .i64 ((RM.work m10:Nat):Int)),(AV.int .i64 ((RM.puts m10:Nat):Int))])])/\
 (((At c8 (y'7.1))/\
 ((MRep c8 M9 m10)/\
 (XT c8)))/\
 (∀ c'11:MH,(∀ σ'12:State,(((At c'11 σ'12)/\
 ((MRep c'11 M9 m10)/\
 (Frame' c8 c'11))) -> (Q (AV.bool true) σ'12))))))))))))))))/\
 (((((0:Int) <= (n5))/\
 (((n5):Int) <= 64)) -> False) -> (Q (AV.bool false) (State.untok σ'3)))))))))))))))))):=by kernel_rfl
end Go.V
/- The law StreamMergers. -/
set_option linter.unusedSimpArgs false
set_option linter.unusedSectionVars false
namespace Go.V
open Go Go.Proofs

structure IM13 (y:YM):Prop where
 at_:At y.c y.σ
 rep:MRep y.c y.M y.m
 xt:XT y.c
 i:y.i <= 150
theorem MRep.wf {c:MH} {M:Nat} {m:RM} (h:MRep c M m):m.Wf:=by
 obtain ⟨L0,p0,_,_,_,hW⟩:=h; exact hW
theorem split_len {m:RM} (hW:m.Wf) (i n:Int):(m.split i n).2.1.length <= 1000000:=by
 unfold RM.split
 split
 ·exact Nat.zero_le _
 ·split
  ·exact Nat.zero_le _
  ·split
   ·exact Nat.zero_le _
   ·dsimp only
    rw [List.length_range']; omega
def zT:T:=.mk 0 0 ⟨⟨[]⟩⟩ []
theorem zT_none:noneT zT = true:=by decide
theorem zT_bulk:zT.bulk <= 1099511627776:=by decide

section
variable {B:Nat} {w0:World} {G:Nat -> AV}
theorem H53_ok (hG:∀ i,NoId (G i)):HOk1 (EV B w0 G) (H53 (EV B w0 G)):=hnd_ok (EV_mixed B w0 G) (contracts_cons c47r_ok (contracts_cons c48_ok (contracts_cons c46_ok (contracts_cons c54r_ok (contracts_cons (c100_ok hG) (contracts_cons (c101_ok hG) (contracts_cons (c20_ok hG) contracts_nil)))))))
theorem inputs_le (m:RM):m.inputs.length <= m.I.length:=by
 have:=List.length_filter_le (fun i => (m.at i).op) (List.range m.I.length)
 rw [List.length_range] at this; exact this
theorem c53_ok (hG:∀ i,NoId (G i)):ContractOk (EV B w0 G) 53 C53:=by
 rintro args σ Q ⟨c,M,m,rfl,⟨hA,hM,hX⟩,hQ⟩
 obtain ⟨L0,p0,_,_,_,hW⟩:=hM
 have hlen:=hW.w.len
 have htl:=nd_len hW.w
 have hil:=inputs_le m
 have hM:MRep c M m:=⟨L0,p0,‹_›,‹_›,‹_›,hW⟩
 refine bodyC_ok (EV_mixed B w0 G) (H53_ok hG) (fun l hl _ Q a σ k => k.elim) ((vc53 B w0 G M m σ _).mpr ?_)
 refine ⟨c,M,m,rfl,⟨hA,hM⟩,rfl,m,rfl,by omega,bcase_of (fun _ => ?_) (fun h => by simp at h)⟩
 refine ⟨cleanH c,M,m,rfl,⟨hA.clean,hM.clean⟩,fun c1 σ1 ⟨a1,a2,a3⟩ => ⟨rfl,m,rfl,by omega,m.inputs.map (fun n:Nat => (n:Int)),m.inputs.map (fun n:Nat => (n:Int)),by rw [intsV_Z],by rw [List.length_map]; omega,bcase_of (fun _ => ?_) (fun h => by simp at h)⟩⟩
 have a2:MRep c1 M m:=a2
 have hx1:XT c1:=(hX.frame (XT.clean hX)).frame a3
 have b1:=a1.clean
 have b2:=a2.clean
 have hx2:XT (cleanH c1):=hx1.frame (XT.clean hx1)
 have b3:=b1.clean
 have b4:=b2.clean
 have hx3:XT (cleanH (cleanH c1)):=hx2.frame (XT.clean hx2)
 refine ⟨_,M,m,rfl,⟨b3,b4⟩,fun σ2 g1 => ⟨rfl,rfl,m.turn.map (fun n:Nat => (n:Int)),m.turn.map (fun n:Nat => (n:Int)),by rw [intsV_Z],by rw [List.length_map]; omega,bcase_of (fun _ => ?_) (fun h => by simp at h)⟩⟩
 have d1:=At.clean g1
 have d2:=b4.clean
 have hq:=hQ _ _ ⟨d1,d2,((((XT.clean hX).trans a3).trans (XT.clean hx1)).trans (XT.clean hx2)).trans (XT.clean hx3)⟩
 refine ⟨_,M,m,rfl,⟨d1,d2⟩,rfl,rfl,?_⟩
 rw [beq_self_eq_true]
 exact hq
theorem H13_ok:HOk1 (EV B w0 G1) (H13 (EV B w0 G1)):=hnd_ok (EV_mixed B w0 G1) (contracts_cons c16_ok (contracts_cons c41_ok (contracts_cons (c49_ok G1_noId) (contracts_cons (c42_ok G1_noId) (contracts_cons (c50_ok G1_noId) (contracts_cons (c20_ok G1_noId) (contracts_cons (c45_ok G1_noId) (contracts_cons (c51_ok G1_noId) (contracts_cons (c52_ok G1_noId) (contracts_cons (c53_ok G1_noId) contracts_nil))))))))))

theorem mergers_ok (N:Int) (l:List Ev) (hb:∀ e ∈ l,e.t.bulk <= 1099511627776):ACalls (EV B w0 G1) 13 [.agg [.int .i64 N,.slice 7 (evL l) .any]] noObj (fun v _ => v = .bool true):=by
 refine bodyX_ok (cuts:=[]) (EV_mixed B w0 G1) H13_ok (fun lp hl _ Q a σ kk => ?_) ((vc13 B w0 G1 N l IM13 _).mpr ?_)
 ·change lp ∈ fnParts Tryz.prog [] 13 at hl
  rw [fnParts_13] at hl
  simp only [List.mem_cons,List.not_mem_nil,or_false] at hl
  subst hl
  rcases kk with ⟨ha,hq⟩ | ⟨y,hI,ha,hq⟩
  ·refine awp_loopS (ls13b N l) (x0:=()) (fun y hI => ?_) (fun y hI e a σ hne kk => ?_) trivial ha
   ·show AWp _ _ _ _ _ (frm [(1,.l 1 0),(3,.v .nilptr),(4,.v (.int .i64 1)),(5,.l 5 0),(7,.v (.int .i64 0))] [(1,[.int .i64 N,.slice 7 (evL l) .any]),(5,[.slice 4 [] .any,.slice 1 [] .any,.int .i64 0,.int .i64 0])]) noObj
    refine wpX_ok H13_ok (EV_mixed B w0 G1) (L:=fun _ _ _ _ => False) _ _ _ _ (fun p hp hc Q a σ k => k.elim) (by kernel_rfl) ((vc13b B w0 G1 N l).mpr ?_)
    exact bcase_of (fun _ => ⟨rfl,rfl,.refl _⟩) (fun _ => ⟨rfl,rfl,.refl _⟩)
   ·cases e with
    | exit i =>
     match i,kk with
     | 0,kk =>
      have kk:atF a [(3,.v .nilptr),(4,.v (.int .i64 1))] [] (noObj.Le σ):=kk
      exact ⟨_,_,(atF_ok kk).1,(atF_ok kk).2,hq⟩
    | normal => exact absurd rfl hne
    | _ => exact kk.elim
  ·refine awp_loopS (ls13 N l IM13) (x0:=y) (fun y hI => ?_) (fun y hI e a σ hne kk => ?_) hI ha
   ·have hI:IM13 y:=hI
    show AWp _ _ _ _ _ (frm [(1,.l 1 0),(3,.v (.ptr y.M 0)),(4,.v (.int .i64 0)),(5,.l 5 0),(7,.v (.int .i64 (y.i:Int)))] [(1,[.int .i64 N,.slice 7 (evL l) .any]),(5,[.slice 4 (rL y.m.I) .any,.slice 1 (intsV y.m.turn) .any,.int .i64 (y.m.work:Int),.int .i64 (y.m.puts:Int)])]) y.σ
    refine wpX_ok H13_ok (EV_mixed B w0 G1) (L:=fun _ _ _ _ => False) _ _ _ _ (fun p hp hc Q a σ k => k.elim) (by kernel_rfl) ((vc13l B w0 G1 N l IM13 y).mpr ?_)
    have out:(TV.v (.ptr y.M 0) = TV.v (.ptr y.M 0)) /\ (TV.v (.int .i64 0) = TV.v (.int .i64 0)) /\ (TV.l 5 0 = TV.l 5 0) /\ ([AV.slice 4 (rL y.m.I) .any,.slice 1 (intsV y.m.turn) .any,.int .i64 (y.m.work:Int),.int .i64 (y.m.puts:Int)] = [AV.slice 4 (rL y.m.I) .any,.slice 1 (intsV y.m.turn) .any,.int .i64 (y.m.work:Int),.int .i64 (y.m.puts:Int)]) /\ y.σ.Le y.σ:=⟨rfl,rfl,rfl,rfl,.refl _⟩
    refine bcase_of (fun h => bcase_of (fun h150 => ?_) (fun _ => out)) (fun _ => out)
    have h:=of_decide_eq_true h
    have h150:=of_decide_eq_true h150
    have hi:y.i < l.length:=by rw [evL_len] at h; omega
    have hget:AV.vptr (AV.cells (List.getD (evL l) (Int.toNat (y.i:Int)) .undef)) = .vptr (evc l[y.i]):=by rw [Int.toNat_natCast,ev_get hi]; rfl
    have w1:IntKind.wrap .i64 ((y.i:Int) + 1) = ((y.i + 1:Nat):Int):=by rw [wr_small (by omega) (by omega)]; omega
    have hμ:l.length - (y.i + 1) < l.length - y.i:=by omega
    have hW:=hI.rep.wf
    have hbe:=hb _ (List.getElem_mem hi)
    obtain ⟨e,he⟩:∃ e,e = l[y.i]:=⟨_,rfl⟩
    rw [<-he] at hget hbe
    have nxt:∀ (c2:MH) (σ2:State) (m':RM),At c2 σ2 -> MRep c2 y.M m' -> XT c2 -> ∃ x':YM,(IM13 x' /\ (ls13 N l IM13).μ x' < (ls13 N l IM13).μ y) /\ (TV.l 1 0 = TV.l 1 0) /\ (TV.v (.ptr y.M 0) = TV.v (.ptr x'.M 0)) /\ (TV.v (.int .i64 0) = TV.v (.int .i64 0)) /\ (TV.l 5 0 = TV.l 5 0) /\ (TV.v (.int .i64 (IntKind.wrap .i64 ((y.i:Int) + 1))) = TV.v (.int .i64 (x'.i:Int))) /\
      ([AV.int .i64 N,.slice 7 (evL l) .any] = [AV.int .i64 N,.slice 7 (evL l) .any]) /\ ([AV.slice 4 (rL m'.I) .any,.slice 1 (intsV m'.turn) .any,.int .i64 (m'.work:Int),.int .i64 (m'.puts:Int)] = [AV.slice 4 (rL x'.m.I) .any,.slice 1 (intsV x'.m.turn) .any,.int .i64 (x'.m.work:Int),.int .i64 (x'.m.puts:Int)]) /\ ((ls13 N l IM13).S x').Le σ2:=fun c2 σ2 m' a1 a2 a3 =>
     ⟨⟨σ2,c2,y.M,m',y.i + 1⟩,⟨⟨a1,a2,a3,by show y.i + 1 <= 150; omega⟩,hμ⟩,rfl,rfl,rfl,rfl,by rw [w1],rfl,rfl,.refl _⟩
    refine ⟨⟨by omega,h⟩,e,hget,bcase_of (fun hk => ?_) (fun hk => bcase_of (fun hk1 => bcase_of (fun hk4 => ?_) (fun _ => ?_)) (fun _ => ?_))⟩
    ·refine ⟨y.c,y.M,y.m,e.i,e.n,rfl,⟨hI.at_,hI.rep⟩,fun c1 σ1 ⟨g1,g2,g3⟩ => ⟨y.m,e.i,e.n,rfl,hW,bcase_of (fun h => by simp at h) (fun _ => ⟨(y.m.split e.i e.n).2.1.map (fun n:Nat => (n:Int)),(y.m.split e.i e.n).2.1.map (fun n:Nat => (n:Int)),by rw [intsV_Z],by rw [List.length_map]; exact split_len hW _ _,bcase_of (fun h => by simp at h) (fun _ => ?_)⟩)⟩⟩
     have g2:MRep c1 y.M (y.m.split e.i e.n).1:=g2
     have hx1:XT c1:=hI.xt.frame g3
     have hx2:XT (cleanH c1):=hx1.frame (XT.clean hx1)
     have hx3:XT (cleanH (cleanH c1)):=hx2.frame (XT.clean hx2)
     exact ⟨cleanH (cleanH c1),y.M,(y.m.split e.i e.n).1,rfl,⟨g1.clean.clean,g2.clean.clean,hx3⟩,fun c2 σ2 ⟨a1,a2,a3⟩ => nxt c2 σ2 _ a1 a2 (hx3.frame a3)⟩
    ·have hk3:¬ e.k = 3:=by simpa using hk
     have hk1:=of_decide_eq_true hk1
     have hk4:=of_decide_eq_true hk4
     refine ⟨y.c,y.M,y.m,e,rfl,⟨hI.at_,hI.rep,hI.xt⟩,fun c1 σ1 ⟨g1,g2,g3⟩ => ?_⟩
     have g2:MRep c1 y.M (y.m.do e).1:=g2
     have hx1:XT c1:=hI.xt.frame g3
     have hx2:XT (cleanH c1):=hx1.frame (XT.clean hx1)
     have hx3:XT (cleanH (cleanH c1)):=hx2.frame (XT.clean hx2)
     obtain ⟨d1,d2⟩:=do_items hW e
     refine bcase_of (fun hk4 => bcase_of (fun hk1 => ?_) (fun hk1 => ?_)) (fun hk4 => bcase_of (fun hk1 => ?_) (fun hk1 => ?_))
     ·have hk1:e.k = 1:=by simpa using hk1
      have hdo:y.m.doR ⟨e.k,e.i,0,e.t⟩ = y.m.do e:=by
       unfold RM.doR isEv RM.do
       simp [hk1]
      refine ⟨y.m,⟨e.k,e.i,0,e.t⟩,_,rfl,⟨.inl rfl,hW,hbe⟩,?_⟩
      rw [hdo]
      exact bcase_of (fun h => by simp at h) (fun _ => ⟨(y.m.do e).2.1,rfl,⟨d1,d2⟩,cleanH (cleanH c1),y.M,(y.m.do e).1,rfl,⟨g1.clean.clean,g2.clean.clean,hx3⟩,fun c2 σ2 ⟨a1,a2,a3⟩ => nxt c2 σ2 _ a1 a2 (hx3.frame a3)⟩)
     ·have hk1:¬ e.k = 1:=by simpa using hk1
      have hk4:¬ e.k = 4:=by simpa using hk4
      have hk2:e.k = 2:=by omega
      have hdo:y.m.doR ⟨e.k,e.i,0,zT⟩ = y.m.do e:=by
       unfold RM.doR isEv RM.do
       simp [hk2,zT_none]
      refine ⟨y.m,⟨e.k,e.i,0,zT⟩,_,rfl,⟨.inr ⟨rfl,rfl⟩,hW,zT_bulk⟩,?_⟩
      rw [hdo]
      exact bcase_of (fun h => by simp at h) (fun _ => ⟨(y.m.do e).2.1,rfl,⟨d1,d2⟩,cleanH (cleanH c1),y.M,(y.m.do e).1,rfl,⟨g1.clean.clean,g2.clean.clean,hx3⟩,fun c2 σ2 ⟨a1,a2,a3⟩ => nxt c2 σ2 _ a1 a2 (hx3.frame a3)⟩)
     ·have hk1:e.k = 1:=by simpa using hk1
      have hk4:e.k = 4:=by simpa using hk4
      omega
     ·have hk1:¬ e.k = 1:=by simpa using hk1
      have hk4:e.k = 4:=by simpa using hk4
      have hdo:y.m.doR ⟨e.k,0,0,zT⟩ = y.m.do e:=by
       unfold RM.doR isEv RM.do
       simp [hk4,zT_none]
      refine ⟨y.m,⟨e.k,0,0,zT⟩,_,rfl,⟨.inr ⟨rfl,rfl⟩,hW,zT_bulk⟩,?_⟩
      rw [hdo]
      exact bcase_of (fun h => by simp at h) (fun _ => ⟨(y.m.do e).2.1,rfl,⟨d1,d2⟩,cleanH (cleanH c1),y.M,(y.m.do e).1,rfl,⟨g1.clean.clean,g2.clean.clean,hx3⟩,fun c2 σ2 ⟨a1,a2,a3⟩ => nxt c2 σ2 _ a1 a2 (hx3.frame a3)⟩)
    ·exact ⟨y.c,y.M,y.m,rfl,⟨hI.at_,hI.rep,hI.xt⟩,fun c2 σ2 ⟨a1,a2,a3⟩ => nxt c2 σ2 _ a1 a2 (hI.xt.frame a3)⟩
    ·exact ⟨y.c,y.M,y.m,rfl,⟨hI.at_,hI.rep,hI.xt⟩,fun c2 σ2 ⟨a1,a2,a3⟩ => nxt c2 σ2 _ a1 a2 (hI.xt.frame a3)⟩
   ·cases e with
    | exit i =>
     match i,kk with
     | 0,kk =>
      have kk:atF a [(3,.v (.ptr y.M 0)),(4,.v (.int .i64 0)),(5,.l 5 0)] [(5,[.slice 4 (rL y.m.I) .any,.slice 1 (intsV y.m.turn) .any,.int .i64 (y.m.work:Int),.int .i64 (y.m.puts:Int)])] (y.σ.Le σ):=kk
      exact ⟨_,_,(atF_ok kk).1,(atF_ok kk).2,hq y hI⟩
    | normal => exact absurd rfl hne
    | _ => exact kk.elim
 have fin:∀ y':YM,IM13 y' -> ∃ (c:MH) (M:Nat) (m:RM),[AV.ptr y'.M 0,rmV y'.m] = [.ptr M 0,rmV m] /\ (At c y'.σ /\ MRep c M m /\ XT c) /\ ∀ (c':MH) (σ':State),(At c' σ' /\ MRep c' M m /\ Frame' c c') -> AV.bool true = .bool true:=fun y' hI =>
  ⟨y'.c,y'.M,y'.m,rfl,⟨hI.at_,hI.rep,hI.xt⟩,fun _ _ _ => rfl⟩
 refine ⟨rfl,noneH,N,rfl,noneH_at _,fun hbad => ⟨N,rfl,fun h => by omega,fun _ => .inl ⟨⟨rfl,rfl,rfl,rfl,rfl,rfl,rfl,⟨rfl,fun id => .inr rfl⟩⟩,rfl⟩⟩,fun hok c' σ' M ⟨g1,g2,g3⟩ => ⟨N,rfl,fun _ => .inr ?_,fun h => absurd hok h⟩⟩
 have g2:MRep c' M (RM.new N.toNat):=g2
 have hx1:XT c':=noneH_xt.frame g3
 exact ⟨⟨σ'.untok,cleanH c',M,RM.new N.toNat,0⟩,⟨g1.clean,g2.clean,hx1.frame (XT.clean hx1),Nat.zero_le _⟩,⟨rfl,rfl,rfl,rfl,rfl,rfl,rfl,.refl _⟩,fun y' hI => fin y' hI⟩
end
end Go.V
