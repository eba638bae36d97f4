import Derived.Test.YtgnjidopnplbbaaGreatDoorQ24
/- Conditions: the laws StreamDone, StreamWork. -/
set_option maxRecDepth 1000000
set_option linter.unusedVariables false
namespace Go.V
open Go Go.Proofs

structure YD where
  σ : State
  c : MH
  M : Nat
  m : RM
  a : Nat
  b : Nat
  i : Nat
def H12 (E : Env) : Hand := hnd E annA noHints [(16, C16), (41, C41r), (45, C45r), (47, C47r), (48, C48r)]
def ls12 (N : Int) (l : List Ev) (I : YD → Prop) : LS YD where
  F y := [(1, .l 1 0), (3, .v (.ptr y.M 0)), (5, .v (.int .i64 (y.a : Int))), (6, .v (.int .i64 (y.b : Int))), (7, .v (.int .i64 (y.i : Int)))]
  FL _ := FL94 N l
  S y := y.σ
  I := I
  μ y := l.length - y.i
  Ex y e a σ := match e with
    | .exit 0 => True
    | _ => False
def N12 : FnHint := hAt [(12, 4, hEv), (13, 3, hEv)]
theorem fnParts_12 : fnParts Tryz.prog [] 12 = [.loop (bodyOf (fnPart Tryz.prog [] 12 0))] := by kernel_rfl
theorem vc12l (B : Nat) (w0 : World) (G : Nat → AV) (N : Int) (l : List Ev) (I : YD → Prop) (y : YD) : (wpX [] (EV B w0 G) (H12 (EV B w0 G)) (fun _ _ _ _ => False) (annA 12) N12 (bodyOf (fnPart Tryz.prog [] 12 0)) ((ls12 N l I).post y) (frm [(1, .l 1 0), (3, .v (.ptr y.M 0)), (5, .v (.int .i64 (y.a : Int))), (6, .v (.int .i64 (y.b : Int))), (7, .v (.int .i64 (y.i : Int)))] [(1, [.int .i64 N, .slice 7 (evL l) .any])]) y.σ) =
 ((bcase (decide (((((YD.i y) : Nat) : Int) : Int) < (((List.length (evL l)) : Nat) : Int)))
 (bcase (decide (((((YD.i y) : Nat) : Int) : Int) < 150))
 ((((0 : Int) ≤ (((YD.i y) : Nat) : Int)) ∧
 (((((YD.i y) : Nat) : Int) : Int) < (((List.length (evL l)) : Nat) : Int))) ∧
 (∃ x0 : Ev, (((AV.vptr (AV.cells (List.getD (evL l) (Int.toNat (↑(YD.i y) : Int)) AV.undef))) = (AV.vptr [(AV.int IntKind.i64 (Ev.k x0)), (AV.int IntKind.i64 (Ev.i x0)), (AV.int IntKind.i64 (Ev.n x0)), (AV.int IntKind.i64 (T.k (Ev.t x0))), (AV.int IntKind.i64 (T.n (Ev.t x0))), (AV.str (T.s (Ev.t x0))), (AV.slice 4 (tcellL (T.l (Ev.t x0))) Cap.any)])) ∧
 (∃ c1 : MH, (∃ M2 : Nat, (∃ m3 : RM, (∃ e4 : Ev, (([(AV.ptr (YD.M y) 0), (AV.agg [(AV.int IntKind.i64 (Ev.k x0)), (AV.int IntKind.i64 (Ev.i x0)), (AV.int IntKind.i64 (Ev.n x0)), (AV.int IntKind.i64 (T.k (Ev.t x0))), (AV.int IntKind.i64 (T.n (Ev.t x0))), (AV.str (T.s (Ev.t x0))), (AV.slice 4 (tcellL (T.l (Ev.t x0))) Cap.any)])] = [(AV.ptr (M2) 0), (AV.agg [(AV.int IntKind.i64 (Ev.k e4)), (AV.int IntKind.i64 (Ev.i e4)), (AV.int IntKind.i64 (Ev.n e4)), (AV.int IntKind.i64 (T.k (Ev.t e4))), (AV.int IntKind.i64 (T.n (Ev.t e4))), (AV.str (T.s (Ev.t e4))), (AV.slice 4 (tcellL (T.l (Ev.t e4))) Cap.any)])]) ∧
 (((At c1 (y.1)) ∧
 ((∃ L5 : ML, (∃ p6 : PM, ((((ML.M L5) : Nat) = (M2)) ∧
 ((Rep c1 L5 p6) ∧
 ((Abs p6 m3) ∧
 (RM.Wf m3)))))) ∧
 (∀ i5 : Nat, (∀ id6 : Nat, (∀ o7 : AObj, (((c1 (MRole.x i5)) = (Option.some (Prod.mk (id6) (o7)))) → ((isTok o7) = false))))))) ∧
 (∀ c'5 : MH, (∀ σ'6 : State, (((At c'5 σ'6) ∧
 ((∃ L7 : ML, (∃ p8 : PM, ((((ML.M L7) : Nat) = (M2)) ∧
 ((Rep c'5 L7 p8) ∧
 ((Abs p8 (Prod.fst (RM.do m3 e4))) ∧
 (RM.Wf (Prod.fst (RM.do m3 e4)))))))) ∧
 (∀ i7 : Nat, ((c'5 (MRole.x i7)) = (c1 (MRole.x i7)))))) → ((((0 : Int) ≤ (((YD.i y) : Nat) : Int)) ∧
 (((((YD.i y) : Nat) : Int) : Int) < (((List.length (evL l)) : Nat) : Int))) ∧
 (∃ x7 : Ev, (((AV.vptr (AV.cells (List.getD (evL l) (Int.toNat (↑(YD.i y) : Int)) AV.undef))) = (AV.vptr [(AV.int IntKind.i64 (Ev.k x7)), (AV.int IntKind.i64 (Ev.i x7)), (AV.int IntKind.i64 (Ev.n x7)), (AV.int IntKind.i64 (T.k (Ev.t x7))), (AV.int IntKind.i64 (T.n (Ev.t x7))), (AV.str (T.s (Ev.t x7))), (AV.slice 4 (tcellL (T.l (Ev.t x7))) Cap.any)])) ∧
 (bcase (((Ev.k x7) : Int) == 1)
 (bcase (((Prod.snd (Prod.snd (RM.do m3 e4))) : Int) == 0)
 (∃ c8 : MH, (∃ M9 : Nat, (∃ m10 : RM, (([(AV.ptr (YD.M y) 0)] = [(AV.ptr (M9) 0)]) ∧
 (((At c8 σ'6) ∧
 (∃ L11 : ML, (∃ p12 : PM, ((((ML.M L11) : Nat) = (M9)) ∧
 ((Rep c8 L11 p12) ∧
 ((Abs p12 m10) ∧
 (RM.Wf m10))))))) ∧
 (∃ c11 : MH, (∃ M12 : Nat, (∃ m13 : RM, (([(AV.ptr (YD.M y) 0)] = [(AV.ptr (M12) 0)]) ∧
 (((At c11 σ'6) ∧
 (∃ L14 : ML, (∃ p15 : PM, ((((ML.M L14) : Nat) = (M12)) ∧
 ((Rep c11 L14 p15) ∧
 ((Abs p15 m13) ∧
 (RM.Wf m13))))))) ∧
 (∀ c'14 : MH, (∀ σ'15 : State, (((At c'14 σ'15) ∧
 ((∃ L16 : ML, (∃ p17 : PM, ((((ML.M L16) : Nat) = (M12)) ∧
 ((Rep c'14 L16 p17) ∧
 ((Abs p17 m13) ∧
 (RM.Wf m13)))))) ∧
 (∀ i16 : Nat, ((c'14 (MRole.x i16)) = (c11 (MRole.x i16)))))) → (bcase (((((List.length (intsV (RM.inputs m13))) : Nat) : Int) : Int) == 0)
 (bcase (!(((RM.done m10) : Bool) == (((IntKind.wrap IntKind.i64 ((((YD.a y) : Nat) : Int) + 1)) : Int) == (IntKind.wrap IntKind.i64 ((((YD.b y) : Nat) : Int) + (((List.length (List.map itemC (Prod.fst (Prod.snd (RM.do m3 e4))))) : Nat) : Int))))))
 False
 (∃ x'16 : YD, (((I (x'16)) ∧
 (((LS.μ (ls12 N l I) x'16) : Nat) < (LS.μ (ls12 N l I) y))) ∧
 (((TV.l 1 0) = (TV.l 1 0)) ∧
 (((TV.v (AV.ptr (YD.M y) 0)) = (TV.v (AV.ptr (YD.M x'16) 0))) ∧
 (((TV.v (AV.int IntKind.i64 (IntKind.wrap IntKind.i64 ((((YD.a y) : Nat) : Int) + 1)))) = (TV.v (AV.int IntKind.i64 (((YD.a x'16) : Nat) : Int)))) ∧
 (((TV.v (AV.int IntKind.i64 (IntKind.wrap IntKind.i64 ((((YD.b y) : Nat) : Int) + (((List.length (List.map itemC (Prod.fst (Prod.snd (RM.do m3 e4))))) : Nat) : Int))))) = (TV.v (AV.int IntKind.i64 (((YD.b x'16) : Nat) : Int)))) ∧
 (((TV.v (AV.int IntKind.i64 (IntKind.wrap IntKind.i64 ((((YD.i y) : Nat) : Int) + 1)))) = (TV.v (AV.int IntKind.i64 (((YD.i x'16) : Nat) : Int)))) ∧
 (([(AV.int IntKind.i64 (N)), (AV.slice 7 (evL l) Cap.any)] = [(AV.int IntKind.i64 (N)), (AV.slice 7 (evL l) Cap.any)]) ∧
 (State.Le ((ls12 N l I).3 x'16) σ'15))))))))))
 (bcase (!(((RM.done m10) : Bool) == false))
 False
 (∃ x'16 : YD, (((I (x'16)) ∧
 (((LS.μ (ls12 N l I) x'16) : Nat) < (LS.μ (ls12 N l I) y))) ∧
 (((TV.l 1 0) = (TV.l 1 0)) ∧
 (((TV.v (AV.ptr (YD.M y) 0)) = (TV.v (AV.ptr (YD.M x'16) 0))) ∧
 (((TV.v (AV.int IntKind.i64 (IntKind.wrap IntKind.i64 ((((YD.a y) : Nat) : Int) + 1)))) = (TV.v (AV.int IntKind.i64 (((YD.a x'16) : Nat) : Int)))) ∧
 (((TV.v (AV.int IntKind.i64 (IntKind.wrap IntKind.i64 ((((YD.b y) : Nat) : Int) + (((List.length (List.map itemC (Prod.fst (Prod.snd (RM.do m3 e4))))) : Nat) : Int))))) = (TV.v (AV.int IntKind.i64 (((YD.b x'16) : Nat) : Int)))) ∧
 (((TV.v (AV.int IntKind.i64 (IntKind.wrap IntKind.i64 ((((YD.i y) : Nat) : Int) + 1)))) = (TV.v (AV.int IntKind.i64 (((YD.i x'16) : Nat) : Int)))) ∧
 (([(AV.int IntKind.i64 (N)), (AV.slice 7 (evL l) Cap.any)] = [(AV.int IntKind.i64 (N)), (AV.slice 7 (evL l) Cap.any)]) ∧
 (State.Le ((ls12 N l I).3 x'16) σ'15))))))))))))))))))))))))
 (∃ c8 : MH, (∃ M9 : Nat, (∃ m10 : RM, (([(AV.ptr (YD.M y) 0)] = [(AV.ptr (M9) 0)]) ∧
 (((At c8 σ'6) ∧
 (∃ L11 : ML, (∃ p12 : PM, ((((ML.M L11) : Nat) = (M9)) ∧
 ((Rep c8 L11 p12) ∧
 ((Abs p12 m10) ∧
 (RM.Wf m10))))))) ∧
 (∃ c11 : MH, (∃ M12 : Nat, (∃ m13 : RM, (([(AV.ptr (YD.M y) 0)] = [(AV.ptr (M12) 0)]) ∧
 (((At c11 σ'6) ∧
 (∃ L14 : ML, (∃ p15 : PM, ((((ML.M L14) : Nat) = (M12)) ∧
 ((Rep c11 L14 p15) ∧
 ((Abs p15 m13) ∧
 (RM.Wf m13))))))) ∧
 (∀ c'14 : MH, (∀ σ'15 : State, (((At c'14 σ'15) ∧
 ((∃ L16 : ML, (∃ p17 : PM, ((((ML.M L16) : Nat) = (M12)) ∧
 ((Rep c'14 L16 p17) ∧
 ((Abs p17 m13) ∧
 (RM.Wf m13)))))) ∧
 (∀ i16 : Nat, ((c'14 (MRole.x i16)) = (c11 (MRole.x i16)))))) → (bcase (((((List.length (intsV (RM.inputs m13))) : Nat) : Int) : Int) == 0)
 (bcase (!(((RM.done m10) : Bool) == (((((YD.a y) : Nat) : Int) : Int) == (IntKind.wrap IntKind.i64 ((((YD.b y) : Nat) : Int) + (((List.length (List.map itemC (Prod.fst (Prod.snd (RM.do m3 e4))))) : Nat) : Int))))))
 False
 (∃ x'16 : YD, (((I (x'16)) ∧
 (((LS.μ (ls12 N l I) x'16) : Nat) < (LS.μ (ls12 N l I) y))) ∧
 (((TV.l 1 0) = (TV.l 1 0)) ∧
 (((TV.v (AV.ptr (YD.M y) 0)) = (TV.v (AV.ptr (YD.M x'16) 0))) ∧
 (((TV.v (AV.int IntKind.i64 (((YD.a y) : Nat) : Int))) = (TV.v (AV.int IntKind.i64 (((YD.a x'16) : Nat) : Int)))) ∧
 (((TV.v (AV.int IntKind.i64 (IntKind.wrap IntKind.i64 ((((YD.b y) : Nat) : Int) + (((List.length (List.map itemC (Prod.fst (Prod.snd (RM.do m3 e4))))) : Nat) : Int))))) = (TV.v (AV.int IntKind.i64 (((YD.b x'16) : Nat) : Int)))) ∧
 (((TV.v (AV.int IntKind.i64 (IntKind.wrap IntKind.i64 ((((YD.i y) : Nat) : Int) + 1)))) = (TV.v (AV.int IntKind.i64 (((YD.i x'16) : Nat) : Int)))) ∧
 (([(AV.int IntKind.i64 (N)), (AV.slice 7 (evL l) Cap.any)] = [(AV.int IntKind.i64 (N)), (AV.slice 7 (evL l) Cap.any)]) ∧
 (State.Le ((ls12 N l I).3 x'16) σ'15))))))))))
 (bcase (!(((RM.done m10) : Bool) == false))
 False
 (∃ x'16 : YD, (((I (x'16)) ∧
 (((LS.μ (ls12 N l I) x'16) : Nat) < (LS.μ (ls12 N l I) y))) ∧
 (((TV.l 1 0) = (TV.l 1 0)) ∧
 (((TV.v (AV.ptr (YD.M y) 0)) = (TV.v (AV.ptr (YD.M x'16) 0))) ∧
 (((TV.v (AV.int IntKind.i64 (((YD.a y) : Nat) : Int))) = (TV.v (AV.int IntKind.i64 (((YD.a x'16) : Nat) : Int)))) ∧
 (((TV.v (AV.int IntKind.i64 (IntKind.wrap IntKind.i64 ((((YD.b y) : Nat) : Int) + (((List.length (List.map itemC (Prod.fst (Prod.snd (RM.do m3 e4))))) : Nat) : Int))))) = (TV.v (AV.int IntKind.i64 (((YD.b x'16) : Nat) : Int)))) ∧
 (((TV.v (AV.int IntKind.i64 (IntKind.wrap IntKind.i64 ((((YD.i y) : Nat) : Int) + 1)))) = (TV.v (AV.int IntKind.i64 (((YD.i x'16) : Nat) : Int)))) ∧
 (([(AV.int IntKind.i64 (N)), (AV.slice 7 (evL l) Cap.any)] = [(AV.int IntKind.i64 (N)), (AV.slice 7 (evL l) Cap.any)]) ∧
 (State.Le ((ls12 N l I).3 x'16) σ'15)))))))))))))))))))))))))
 (∃ c8 : MH, (∃ M9 : Nat, (∃ m10 : RM, (([(AV.ptr (YD.M y) 0)] = [(AV.ptr (M9) 0)]) ∧
 (((At c8 σ'6) ∧
 (∃ L11 : ML, (∃ p12 : PM, ((((ML.M L11) : Nat) = (M9)) ∧
 ((Rep c8 L11 p12) ∧
 ((Abs p12 m10) ∧
 (RM.Wf m10))))))) ∧
 (∃ c11 : MH, (∃ M12 : Nat, (∃ m13 : RM, (([(AV.ptr (YD.M y) 0)] = [(AV.ptr (M12) 0)]) ∧
 (((At c11 σ'6) ∧
 (∃ L14 : ML, (∃ p15 : PM, ((((ML.M L14) : Nat) = (M12)) ∧
 ((Rep c11 L14 p15) ∧
 ((Abs p15 m13) ∧
 (RM.Wf m13))))))) ∧
 (∀ c'14 : MH, (∀ σ'15 : State, (((At c'14 σ'15) ∧
 ((∃ L16 : ML, (∃ p17 : PM, ((((ML.M L16) : Nat) = (M12)) ∧
 ((Rep c'14 L16 p17) ∧
 ((Abs p17 m13) ∧
 (RM.Wf m13)))))) ∧
 (∀ i16 : Nat, ((c'14 (MRole.x i16)) = (c11 (MRole.x i16)))))) → (bcase (((((List.length (intsV (RM.inputs m13))) : Nat) : Int) : Int) == 0)
 (bcase (!(((RM.done m10) : Bool) == (((((YD.a y) : Nat) : Int) : Int) == (IntKind.wrap IntKind.i64 ((((YD.b y) : Nat) : Int) + (((List.length (List.map itemC (Prod.fst (Prod.snd (RM.do m3 e4))))) : Nat) : Int))))))
 False
 (∃ x'16 : YD, (((I (x'16)) ∧
 (((LS.μ (ls12 N l I) x'16) : Nat) < (LS.μ (ls12 N l I) y))) ∧
 (((TV.l 1 0) = (TV.l 1 0)) ∧
 (((TV.v (AV.ptr (YD.M y) 0)) = (TV.v (AV.ptr (YD.M x'16) 0))) ∧
 (((TV.v (AV.int IntKind.i64 (((YD.a y) : Nat) : Int))) = (TV.v (AV.int IntKind.i64 (((YD.a x'16) : Nat) : Int)))) ∧
 (((TV.v (AV.int IntKind.i64 (IntKind.wrap IntKind.i64 ((((YD.b y) : Nat) : Int) + (((List.length (List.map itemC (Prod.fst (Prod.snd (RM.do m3 e4))))) : Nat) : Int))))) = (TV.v (AV.int IntKind.i64 (((YD.b x'16) : Nat) : Int)))) ∧
 (((TV.v (AV.int IntKind.i64 (IntKind.wrap IntKind.i64 ((((YD.i y) : Nat) : Int) + 1)))) = (TV.v (AV.int IntKind.i64 (((YD.i x'16) : Nat) : Int)))) ∧
 (([(AV.int IntKind.i64 (N)), (AV.slice 7 (evL l) Cap.any)] = [(AV.int IntKind.i64 (N)), (AV.slice 7 (evL l) Cap.any)]) ∧
 (State.Le ((ls12 N l I).3 x'16) σ'15))))))))))
 (bcase (!(((RM.done m10) : Bool) == false))
 False
 (∃ x'16 : YD, (((I (x'16)) ∧
 (((LS.μ (ls12 N l I) x'16) : Nat) < (LS.μ (ls12 N l I) y))) ∧
 (((TV.l 1 0) = (TV.l 1 0)) ∧
 (((TV.v (AV.ptr (YD.M y) 0)) = (TV.v (AV.ptr (YD.M x'16) 0))) ∧
 (((TV.v (AV.int IntKind.i64 (((YD.a y) : Nat) : Int))) = (TV.v (AV.int IntKind.i64 (((YD.a x'16) : Nat) : Int)))) ∧
 (((TV.v (AV.int IntKind.i64 (IntKind.wrap IntKind.i64 ((((YD.b y) : Nat) : Int) + (((List.length (List.map itemC (Prod.fst (Prod.snd (RM.do m3 e4))))) : Nat) : Int))))) = (TV.v (AV.int IntKind.i64 (((YD.b x'16) : Nat) : Int)))) ∧
 (((TV.v (AV.int IntKind.i64 (IntKind.wrap IntKind.i64 ((((YD.i y) : Nat) : Int) + 1)))) = (TV.v (AV.int IntKind.i64 (((YD.i x'16) : Nat) : Int)))) ∧
 (([(AV.int IntKind.i64 (N)), (AV.slice 7 (evL l) Cap.any)] = [(AV.int IntKind.i64 (N)), (AV.slice 7 (evL l) Cap.any)]) ∧
 (State.Le ((ls12 N l I).3 x'16) σ'15))))))))))))))))))))))))))))))))))))))))
 True)
 True)) := by kernel_rfl
def T12 (N : Int) (l : List Ev) (I : YD → Prop) : LHand := fun _ Q a σ => ∃ y : YD, I y ∧ atF a ((ls12 N l I).F y) (FL94 N l) (y.σ.Le σ) ∧ ∀ σ', Q (.exit 0) (frm [] []) σ'
theorem vc12 (B : Nat) (w0 : World) (G : Nat → AV) (N : Int) (l : List Ev) (I : YD → Prop) (Q : AV → State → Prop) : (bodyX [] (EV B w0 G) (H12 (EV B w0 G)) (T12 N l I) annA noHint 12 [.agg [.int .i64 N, .slice 7 (evL l) .any]] noObj Q) =
 (((([] : List AV) = []) ∧
 (bcase (decide (((N) : Int) < 0))
 (Q (AV.bool true) (State.untok (noObj)))
 (bcase (decide (((N) : Int) > 64))
 (Q (AV.bool true) (State.untok (noObj)))
 (∃ c0 : MH, (∃ n1 : Int, (([(AV.int IntKind.i64 (N))] = [(AV.int IntKind.i64 (n1))]) ∧
 ((At c0 (State.untok (noObj))) ∧
 ((((((n1) : Int) < 0) ∨ ((64 : Int) < (n1))) → (Q (AV.bool false) (State.untok (noObj)))) ∧
 ((((0 : Int) ≤ (n1)) ∧
 (((n1) : Int) ≤ 64)) → (∀ c'2 : MH, (∀ σ'3 : State, (∀ M4 : Nat, (((At c'2 σ'3) ∧
 ((∃ L5 : ML, (∃ p6 : PM, ((((ML.M L5) : Nat) = (M4)) ∧
 ((Rep c'2 L5 p6) ∧
 ((Abs p6 (RM.new (Int.toNat n1))) ∧
 (RM.Wf (RM.new (Int.toNat n1)))))))) ∧
 (∀ i5 : Nat, ((c'2 (MRole.x i5)) = (c0 (MRole.x i5)))))) → (∃ y5 : YD, ((I (y5)) ∧
 ((((TV.l 1 0) = (TV.l 1 0)) ∧
 (((TV.v (AV.ptr (M4) 0)) = (TV.v (AV.ptr (YD.M y5) 0))) ∧
 (((TV.v (AV.int IntKind.i64 0)) = (TV.v (AV.int IntKind.i64 (((YD.a y5) : Nat) : Int)))) ∧
 (((TV.v (AV.int IntKind.i64 0)) = (TV.v (AV.int IntKind.i64 (((YD.b y5) : Nat) : Int)))) ∧
 (((TV.v (AV.int IntKind.i64 0)) = (TV.v (AV.int IntKind.i64 (((YD.i y5) : Nat) : Int)))) ∧
 (([(AV.int IntKind.i64 (N)), (AV.slice 7 (evL l) Cap.any)] = [(AV.int IntKind.i64 (N)), (AV.slice 7 (evL l) Cap.any)]) ∧
 (State.Le (y5.1) σ'3))))))) ∧
 (∀ σ'6 : State, (Q (AV.bool true) σ'6))))))))))))))))))) := by kernel_rfl

def C55r : Contract := fun args σ K => ∃ s, args = [.str s] ∧ K (.agg [.int .i64 3, .int .i64 0, .str s, .slice 4 [] .any]) σ
theorem vc55 (B : Nat) (w0 : World) (G : Nat → AV) (σ : State) (s : ByteArray) (Q : AV → State → Prop) : (bodyC (EV B w0 G) (H0 (EV B w0 G)) (fun _ _ _ _ => False) annA noHint 55 [.str s] σ Q) =
 ((Q (AV.agg [(AV.int IntKind.i64 3), (AV.int IntKind.i64 0), (AV.str (s)), AV.nilslice]) σ)) := by kernel_rfl
def H14 (E : Env) : Hand := hnd E annA noHints [(16, C16), (41, C41r), (45, C45r), (47, C47r), (48, C48r), (54, C54r), (43, C43r), (56, C56r), (44, C44s), (55, C55r)]
def ls14 (N : Int) (l : List Ev) (I : YD → Prop) : LS YD where
  F y := [(1, .l 1 0), (3, .v (.ptr y.M 0)), (5, .v (.int .i64 (y.a : Int))), (6, .v (.int .i64 (y.i : Int)))]
  FL _ := FL94 N l
  S y := y.σ
  I := I
  μ y := l.length - y.i
  Ex y e a σ := match e with
    | .exit 0 => True
    | _ => False
def N14 : FnHint := hAt [(12, 3, hEv)]
theorem fnParts_14 : fnParts Tryz.prog [] 14 = [.loop (bodyOf (fnPart Tryz.prog [] 14 0))] := by kernel_rfl
def F14c (z : YD) : List (Nat × TV) := [(1, .l 1 0), (3, .v (.ptr z.M 0)), (5, .v (.int .i64 (z.a : Int))), (6, .v (.int .i64 (z.i : Int))), (7, .l 7 0)]
def FL14c (N : Int) (l : List Ev) (e : Ev) : List (Nat × List AV) := [(1, [.int .i64 N, .slice 7 (evL l) .any]), (7, evc e)]
/-- The rest of a round, from the check of the work on. -/
def T14c (N : Int) (l : List Ev) (P : YD → Ev → Prop) (R : YD → Prop) : LHand := fun _ Q a σ => ∃ (z : YD) (e : Ev), P z e ∧ atF a (F14c z) (FL14c N l e) (z.σ.Le σ) ∧
  ∀ y' : YD, R y' → Q .normal (frm [(1, .l 1 0), (3, .v (.ptr y'.M 0)), (5, .v (.int .i64 (y'.a : Int))), (6, .v (.int .i64 (y'.i : Int)))] (FL94 N l)) y'.σ
def cs14 (N : Int) (l : List Ev) (R : YD → Prop) : CS YD where
  I := R
  F y' := [(1, .l 1 0), (3, .v (.ptr y'.M 0)), (5, .v (.int .i64 (y'.a : Int))), (6, .v (.int .i64 (y'.i : Int)))]
  FL _ := FL94 N l
  S y' := y'.σ
def partAt (cuts : List Nat) (c : Code) (i : Nat) : Code := ((partsIn cuts c)[i]?).getD .skip
theorem parts14 : partsIn [17] (bodyOf (fnPart Tryz.prog [] 14 0)) = [partAt [17] (bodyOf (fnPart Tryz.prog [] 14 0)) 0] := by kernel_rfl
theorem vc14l (B : Nat) (w0 : World) (G : Nat → AV) (N : Int) (l : List Ev) (P : YD → Ev → Prop) (R : YD → Prop) (I : YD → Prop) (y : YD) : (wpX [17] (EV B w0 G) (H14 (EV B w0 G)) (T14c N l P R) (annA 14) N14 (bodyOf (fnPart Tryz.prog [] 14 0)) ((ls14 N l I).post y) (frm [(1, .l 1 0), (3, .v (.ptr y.M 0)), (5, .v (.int .i64 (y.a : Int))), (6, .v (.int .i64 (y.i : Int)))] [(1, [.int .i64 N, .slice 7 (evL l) .any])]) y.σ) =
 ((bcase (decide (((((YD.i y) : Nat) : Int) : Int) < (((List.length (evL l)) : Nat) : Int)))
 (bcase (decide (((((YD.i y) : Nat) : Int) : Int) < 150))
 ((((0 : Int) ≤ (((YD.i y) : Nat) : Int)) ∧
 (((((YD.i y) : Nat) : Int) : Int) < (((List.length (evL l)) : Nat) : Int))) ∧
 (∃ x0 : Ev, (((AV.vptr (AV.cells (List.getD (evL l) (Int.toNat (↑(YD.i y) : Int)) AV.undef))) = (AV.vptr [(AV.int IntKind.i64 (Ev.k x0)), (AV.int IntKind.i64 (Ev.i x0)), (AV.int IntKind.i64 (Ev.n x0)), (AV.int IntKind.i64 (T.k (Ev.t x0))), (AV.int IntKind.i64 (T.n (Ev.t x0))), (AV.str (T.s (Ev.t x0))), (AV.slice 4 (tcellL (T.l (Ev.t x0))) Cap.any)])) ∧
 (∃ c1 : MH, (∃ M2 : Nat, (∃ m3 : RM, (∃ e4 : Ev, (([(AV.ptr (YD.M y) 0), (AV.agg [(AV.int IntKind.i64 (Ev.k x0)), (AV.int IntKind.i64 (Ev.i x0)), (AV.int IntKind.i64 (Ev.n x0)), (AV.int IntKind.i64 (T.k (Ev.t x0))), (AV.int IntKind.i64 (T.n (Ev.t x0))), (AV.str (T.s (Ev.t x0))), (AV.slice 4 (tcellL (T.l (Ev.t x0))) Cap.any)])] = [(AV.ptr (M2) 0), (AV.agg [(AV.int IntKind.i64 (Ev.k e4)), (AV.int IntKind.i64 (Ev.i e4)), (AV.int IntKind.i64 (Ev.n e4)), (AV.int IntKind.i64 (T.k (Ev.t e4))), (AV.int IntKind.i64 (T.n (Ev.t e4))), (AV.str (T.s (Ev.t e4))), (AV.slice 4 (tcellL (T.l (Ev.t e4))) Cap.any)])]) ∧
 (((At c1 (y.1)) ∧
 ((∃ L5 : ML, (∃ p6 : PM, ((((ML.M L5) : Nat) = (M2)) ∧
 ((Rep c1 L5 p6) ∧
 ((Abs p6 m3) ∧
 (RM.Wf m3)))))) ∧
 (∀ i5 : Nat, (∀ id6 : Nat, (∀ o7 : AObj, (((c1 (MRole.x i5)) = (Option.some (Prod.mk (id6) (o7)))) → ((isTok o7) = false))))))) ∧
 (∀ c'5 : MH, (∀ σ'6 : State, (((At c'5 σ'6) ∧
 ((∃ L7 : ML, (∃ p8 : PM, ((((ML.M L7) : Nat) = (M2)) ∧
 ((Rep c'5 L7 p8) ∧
 ((Abs p8 (Prod.fst (RM.do m3 e4))) ∧
 (RM.Wf (Prod.fst (RM.do m3 e4)))))))) ∧
 (∀ i7 : Nat, ((c'5 (MRole.x i7)) = (c1 (MRole.x i7)))))) → (bcase (((Ev.k x0) : Int) == 3)
 (bcase (((Prod.snd (Prod.snd (RM.do m3 e4))) : Int) == 0)
 (∃ z7 : YD, (∃ e8 : Ev, ((P (z7) (e8)) ∧
 ((((TV.l 1 0) = (TV.l 1 0)) ∧
 (((TV.v (AV.ptr (YD.M y) 0)) = (TV.v (AV.ptr (YD.M z7) 0))) ∧
 (((TV.v (AV.int IntKind.i64 (IntKind.wrap IntKind.i64 ((IntKind.wrap IntKind.i64 ((((YD.a y) : Nat) : Int) + 1)) + (Ev.n x0))))) = (TV.v (AV.int IntKind.i64 (((YD.a z7) : Nat) : Int)))) ∧
 (((TV.v (AV.int IntKind.i64 (((YD.i y) : Nat) : Int))) = (TV.v (AV.int IntKind.i64 (((YD.i z7) : Nat) : Int)))) ∧
 (((TV.l 7 0) = (TV.l 7 0)) ∧
 (([(AV.int IntKind.i64 (N)), (AV.slice 7 (evL l) Cap.any)] = [(AV.int IntKind.i64 (N)), (AV.slice 7 (evL l) Cap.any)]) ∧
 (([(AV.int IntKind.i64 (Ev.k x0)), (AV.int IntKind.i64 (Ev.i x0)), (AV.int IntKind.i64 (Ev.n x0)), (AV.int IntKind.i64 (T.k (Ev.t x0))), (AV.int IntKind.i64 (T.n (Ev.t x0))), (AV.str (T.s (Ev.t x0))), (AV.slice 4 (tcellL (T.l (Ev.t x0))) Cap.any)] = [(AV.int IntKind.i64 (Ev.k e8)), (AV.int IntKind.i64 (Ev.i e8)), (AV.int IntKind.i64 (Ev.n e8)), (AV.int IntKind.i64 (T.k (Ev.t e8))), (AV.int IntKind.i64 (T.n (Ev.t e8))), (AV.str (T.s (Ev.t e8))), (AV.slice 4 (tcellL (T.l (Ev.t e8))) Cap.any)]) ∧
 (State.Le (z7.1) σ'6)))))))) ∧
 (∀ y'9 : YD, ((R (y'9)) → (∃ x'10 : YD, (((I (x'10)) ∧
 (((LS.μ (ls14 N l I) x'10) : Nat) < (LS.μ (ls14 N l I) y))) ∧
 (((TV.l 1 0) = (TV.l 1 0)) ∧
 (((TV.v (AV.ptr (YD.M y'9) 0)) = (TV.v (AV.ptr (YD.M x'10) 0))) ∧
 (((TV.v (AV.int IntKind.i64 (((YD.a y'9) : Nat) : Int))) = (TV.v (AV.int IntKind.i64 (((YD.a x'10) : Nat) : Int)))) ∧
 (((TV.v (AV.int IntKind.i64 (IntKind.wrap IntKind.i64 ((((YD.i y'9) : Nat) : Int) + 1)))) = (TV.v (AV.int IntKind.i64 (((YD.i x'10) : Nat) : Int)))) ∧
 (([(AV.int IntKind.i64 (N)), (AV.slice 7 (evL l) Cap.any)] = [(AV.int IntKind.i64 (N)), (AV.slice 7 (evL l) Cap.any)]) ∧
 (State.Le ((ls14 N l I).3 x'10) (y'9.1)))))))))))))))
 (∃ z7 : YD, (∃ e8 : Ev, ((P (z7) (e8)) ∧
 ((((TV.l 1 0) = (TV.l 1 0)) ∧
 (((TV.v (AV.ptr (YD.M y) 0)) = (TV.v (AV.ptr (YD.M z7) 0))) ∧
 (((TV.v (AV.int IntKind.i64 (IntKind.wrap IntKind.i64 ((((YD.a y) : Nat) : Int) + 1)))) = (TV.v (AV.int IntKind.i64 (((YD.a z7) : Nat) : Int)))) ∧
 (((TV.v (AV.int IntKind.i64 (((YD.i y) : Nat) : Int))) = (TV.v (AV.int IntKind.i64 (((YD.i z7) : Nat) : Int)))) ∧
 (((TV.l 7 0) = (TV.l 7 0)) ∧
 (([(AV.int IntKind.i64 (N)), (AV.slice 7 (evL l) Cap.any)] = [(AV.int IntKind.i64 (N)), (AV.slice 7 (evL l) Cap.any)]) ∧
 (([(AV.int IntKind.i64 (Ev.k x0)), (AV.int IntKind.i64 (Ev.i x0)), (AV.int IntKind.i64 (Ev.n x0)), (AV.int IntKind.i64 (T.k (Ev.t x0))), (AV.int IntKind.i64 (T.n (Ev.t x0))), (AV.str (T.s (Ev.t x0))), (AV.slice 4 (tcellL (T.l (Ev.t x0))) Cap.any)] = [(AV.int IntKind.i64 (Ev.k e8)), (AV.int IntKind.i64 (Ev.i e8)), (AV.int IntKind.i64 (Ev.n e8)), (AV.int IntKind.i64 (T.k (Ev.t e8))), (AV.int IntKind.i64 (T.n (Ev.t e8))), (AV.str (T.s (Ev.t e8))), (AV.slice 4 (tcellL (T.l (Ev.t e8))) Cap.any)]) ∧
 (State.Le (z7.1) σ'6)))))))) ∧
 (∀ y'9 : YD, ((R (y'9)) → (∃ x'10 : YD, (((I (x'10)) ∧
 (((LS.μ (ls14 N l I) x'10) : Nat) < (LS.μ (ls14 N l I) y))) ∧
 (((TV.l 1 0) = (TV.l 1 0)) ∧
 (((TV.v (AV.ptr (YD.M y'9) 0)) = (TV.v (AV.ptr (YD.M x'10) 0))) ∧
 (((TV.v (AV.int IntKind.i64 (((YD.a y'9) : Nat) : Int))) = (TV.v (AV.int IntKind.i64 (((YD.a x'10) : Nat) : Int)))) ∧
 (((TV.v (AV.int IntKind.i64 (IntKind.wrap IntKind.i64 ((((YD.i y'9) : Nat) : Int) + 1)))) = (TV.v (AV.int IntKind.i64 (((YD.i x'10) : Nat) : Int)))) ∧
 (([(AV.int IntKind.i64 (N)), (AV.slice 7 (evL l) Cap.any)] = [(AV.int IntKind.i64 (N)), (AV.slice 7 (evL l) Cap.any)]) ∧
 (State.Le ((ls14 N l I).3 x'10) (y'9.1))))))))))))))))
 (∃ z7 : YD, (∃ e8 : Ev, ((P (z7) (e8)) ∧
 ((((TV.l 1 0) = (TV.l 1 0)) ∧
 (((TV.v (AV.ptr (YD.M y) 0)) = (TV.v (AV.ptr (YD.M z7) 0))) ∧
 (((TV.v (AV.int IntKind.i64 (IntKind.wrap IntKind.i64 ((((YD.a y) : Nat) : Int) + 1)))) = (TV.v (AV.int IntKind.i64 (((YD.a z7) : Nat) : Int)))) ∧
 (((TV.v (AV.int IntKind.i64 (((YD.i y) : Nat) : Int))) = (TV.v (AV.int IntKind.i64 (((YD.i z7) : Nat) : Int)))) ∧
 (((TV.l 7 0) = (TV.l 7 0)) ∧
 (([(AV.int IntKind.i64 (N)), (AV.slice 7 (evL l) Cap.any)] = [(AV.int IntKind.i64 (N)), (AV.slice 7 (evL l) Cap.any)]) ∧
 (([(AV.int IntKind.i64 (Ev.k x0)), (AV.int IntKind.i64 (Ev.i x0)), (AV.int IntKind.i64 (Ev.n x0)), (AV.int IntKind.i64 (T.k (Ev.t x0))), (AV.int IntKind.i64 (T.n (Ev.t x0))), (AV.str (T.s (Ev.t x0))), (AV.slice 4 (tcellL (T.l (Ev.t x0))) Cap.any)] = [(AV.int IntKind.i64 (Ev.k e8)), (AV.int IntKind.i64 (Ev.i e8)), (AV.int IntKind.i64 (Ev.n e8)), (AV.int IntKind.i64 (T.k (Ev.t e8))), (AV.int IntKind.i64 (T.n (Ev.t e8))), (AV.str (T.s (Ev.t e8))), (AV.slice 4 (tcellL (T.l (Ev.t e8))) Cap.any)]) ∧
 (State.Le (z7.1) σ'6)))))))) ∧
 (∀ y'9 : YD, ((R (y'9)) → (∃ x'10 : YD, (((I (x'10)) ∧
 (((LS.μ (ls14 N l I) x'10) : Nat) < (LS.μ (ls14 N l I) y))) ∧
 (((TV.l 1 0) = (TV.l 1 0)) ∧
 (((TV.v (AV.ptr (YD.M y'9) 0)) = (TV.v (AV.ptr (YD.M x'10) 0))) ∧
 (((TV.v (AV.int IntKind.i64 (((YD.a y'9) : Nat) : Int))) = (TV.v (AV.int IntKind.i64 (((YD.a x'10) : Nat) : Int)))) ∧
 (((TV.v (AV.int IntKind.i64 (IntKind.wrap IntKind.i64 ((((YD.i y'9) : Nat) : Int) + 1)))) = (TV.v (AV.int IntKind.i64 (((YD.i x'10) : Nat) : Int)))) ∧
 (([(AV.int IntKind.i64 (N)), (AV.slice 7 (evL l) Cap.any)] = [(AV.int IntKind.i64 (N)), (AV.slice 7 (evL l) Cap.any)]) ∧
 (State.Le ((ls14 N l I).3 x'10) (y'9.1))))))))))))))))))))))))))))
 True)
 True)) := by kernel_rfl
theorem vc14t (B : Nat) (w0 : World) (G : Nat → AV) (N : Int) (l : List Ev) (R : YD → Prop) (z : YD) (e : Ev) : (wpX [] (EV B w0 G) (H14 (EV B w0 G)) (fun _ _ _ _ => False) (annA 14) noHint (partAt [17] (bodyOf (fnPart Tryz.prog [] 14 0)) 0) ((cs14 N l R).post) (frm [(1, .l 1 0), (3, .v (.ptr z.M 0)), (5, .v (.int .i64 (z.a : Int))), (6, .v (.int .i64 (z.i : Int))), (7, .l 7 0)] [(1, [.int .i64 N, .slice 7 (evL l) .any]), (7, [.int .i64 e.k, .int .i64 e.i, .int .i64 e.n, .int .i64 e.t.k, .int .i64 e.t.n, .str e.t.s, .slice 4 (tcellL e.t.l) .any])]) z.σ) =
 ((∃ c0 : MH, (∃ M1 : Nat, (∃ m2 : RM, (([(AV.ptr (YD.M z) 0)] = [(AV.ptr (M1) 0)]) ∧
 (((At c0 (z.1)) ∧
 (∃ L3 : ML, (∃ p4 : PM, ((((ML.M L3) : Nat) = (M1)) ∧
 ((Rep c0 L3 p4) ∧
 ((Abs p4 m2) ∧
 (RM.Wf m2))))))) ∧
 (bcase (decide (((((RM.work m2) : Nat) : Int) : Int) > (((YD.a z) : Nat) : Int)))
 False
 (∃ c3 : MH, (∃ M4 : Nat, (∃ m5 : RM, (([(AV.ptr (YD.M z) 0)] = [(AV.ptr (M4) 0)]) ∧
 (((At c3 (z.1)) ∧
 (∃ L6 : ML, (∃ p7 : PM, ((((ML.M L6) : Nat) = (M4)) ∧
 ((Rep c3 L6 p7) ∧
 ((Abs p7 m5) ∧
 (RM.Wf m5))))))) ∧
 (bcase (RM.done m5)
 (∃ c6 : MH, (∃ M7 : Nat, (∃ m8 : RM, (([(AV.ptr (YD.M z) 0)] = [(AV.ptr (M7) 0)]) ∧
 (((At c6 (z.1)) ∧
 (∃ L9 : ML, (∃ p10 : PM, ((((ML.M L9) : Nat) = (M7)) ∧
 ((Rep c6 L9 p10) ∧
 ((Abs p10 m8) ∧
 (RM.Wf m8))))))) ∧
 (∀ c'9 : MH, (∀ σ'10 : State, (((At c'9 σ'10) ∧
 ((∃ L11 : ML, (∃ p12 : PM, ((((ML.M L11) : Nat) = (M7)) ∧
 ((Rep c'9 L11 p12) ∧
 ((Abs p12 m8) ∧
 (RM.Wf m8)))))) ∧
 (∀ i11 : Nat, ((c'9 (MRole.x i11)) = (c6 (MRole.x i11)))))) → (bcase (decide (((((List.length (intsV (RM.inputs m8))) : Nat) : Int) : Int) > 0))
 (((TV.v (AV.tuple [])) = (TV.v (AV.tuple []))) ∧
 (((TV.v (AV.tuple [])) = (TV.v (AV.tuple []))) ∧
 (((TV.v (AV.tuple [])) = (TV.v (AV.tuple []))) ∧
 False)))
 (∃ s11 : ByteArray, (([(AV.str ⟨⟨[97]⟩⟩)] = [(AV.str (s11))]) ∧
 (((TV.v (AV.ptr (YD.M z) 0)) = (TV.v (AV.ptr (YD.M z) 0))) ∧
 (((TV.l 7 1) = (TV.l 7 1)) ∧
 (((TV.v (AV.int IntKind.i64 (Ev.i e))) = (TV.v (AV.int IntKind.i64 (Ev.i e)))) ∧
 (∃ c12 : MH, (∃ M13 : Nat, (∃ m14 : RM, (∃ i15 : Int, (∃ t16 : T, (([(AV.ptr (YD.M z) 0), (AV.int IntKind.i64 (Ev.i e)), (AV.agg [(AV.int IntKind.i64 3), (AV.int IntKind.i64 0), (AV.str (s11)), (AV.slice 4 [] Cap.any)])] = [(AV.ptr (M13) 0), (AV.int IntKind.i64 (i15)), (AV.agg [(AV.int IntKind.i64 (T.k t16)), (AV.int IntKind.i64 (T.n t16)), (AV.str (T.s t16)), (AV.slice 4 (tcellL (T.l t16)) Cap.any)])]) ∧
 (((At c12 σ'10) ∧
 ((∃ L17 : ML, (∃ p18 : PM, ((((ML.M L17) : Nat) = (M13)) ∧
 ((Rep c12 L17 p18) ∧
 ((Abs p18 m14) ∧
 (RM.Wf m14)))))) ∧
 (∀ i17 : Nat, (∀ id18 : Nat, (∀ o19 : AObj, (((c12 (MRole.x i17)) = (Option.some (Prod.mk (id18) (o19)))) → ((isTok o19) = false))))))) ∧
 (∀ c'17 : MH, (∀ σ'18 : State, (((At c'17 σ'18) ∧
 ((∃ L19 : ML, (∃ p20 : PM, ((((ML.M L19) : Nat) = (M13)) ∧
 ((Rep c'17 L19 p20) ∧
 ((Abs p20 (Prod.fst (RM.put m14 i15 t16))) ∧
 (RM.Wf (Prod.fst (RM.put m14 i15 t16)))))))) ∧
 (∀ i19 : Nat, ((c'17 (MRole.x i19)) = (c12 (MRole.x i19)))))) → (bcase (((Prod.snd (RM.put m14 i15 t16)) : Int) != 90)
 False
 (∃ c19 : MH, (∃ M20 : Nat, (∃ m21 : RM, (∃ i22 : Int, (([(AV.ptr (YD.M z) 0), (AV.int IntKind.i64 (Ev.i e))] = [(AV.ptr (M20) 0), (AV.int IntKind.i64 (i22))]) ∧
 (((At c19 σ'18) ∧
 (∃ L23 : ML, (∃ p24 : PM, ((((ML.M L23) : Nat) = (M20)) ∧
 ((Rep c19 L23 p24) ∧
 ((Abs p24 m21) ∧
 (RM.Wf m21))))))) ∧
 (∀ c'23 : MH, (∀ σ'24 : State, (((At c'23 σ'24) ∧
 ((∃ L25 : ML, (∃ p26 : PM, ((((ML.M L25) : Nat) = (M20)) ∧
 ((Rep c'23 L25 p26) ∧
 ((Abs p26 (Prod.fst (RM.close m21 i22))) ∧
 (RM.Wf (Prod.fst (RM.close m21 i22)))))))) ∧
 (∀ i25 : Nat, ((c'23 (MRole.x i25)) = (c19 (MRole.x i25)))))) → (bcase (((Prod.snd (RM.close m21 i22)) : Int) != 90)
 False
 (∃ c25 : MH, (∃ M26 : Nat, (∃ m27 : RM, (([(AV.ptr (YD.M z) 0)] = [(AV.ptr (M26) 0)]) ∧
 (((At c25 σ'24) ∧
 (∃ L28 : ML, (∃ p29 : PM, ((((ML.M L28) : Nat) = (M26)) ∧
 ((Rep c25 L28 p29) ∧
 ((Abs p29 m27) ∧
 (RM.Wf m27))))))) ∧
 ((((Prod.snd (RM.next m27)) = Option.none) → (∀ c'28 : MH, (∀ σ'29 : State, (((At c'28 σ'29) ∧
 ((∃ L30 : ML, (∃ p31 : PM, ((((ML.M L30) : Nat) = (M26)) ∧
 ((Rep c'28 L30 p31) ∧
 ((Abs p31 m27) ∧
 (RM.Wf m27)))))) ∧
 (∀ i30 : Nat, ((c'28 (MRole.x i30)) = (c25 (MRole.x i30)))))) → (∃ c30 : MH, (∃ M31 : Nat, (∃ m32 : RM, (([(AV.ptr (YD.M z) 0)] = [(AV.ptr (M31) 0)]) ∧
 (((At c30 σ'29) ∧
 (∃ L33 : ML, (∃ p34 : PM, ((((ML.M L33) : Nat) = (M31)) ∧
 ((Rep c30 L33 p34) ∧
 ((Abs p34 m32) ∧
 (RM.Wf m32))))))) ∧
 (bcase (RM.done m32)
 (∃ y33 : YD, ((R (y33)) ∧
 (((TV.l 1 0) = (TV.l 1 0)) ∧
 (((TV.v (AV.ptr (YD.M z) 0)) = (TV.v (AV.ptr (YD.M y33) 0))) ∧
 (((TV.v (AV.int IntKind.i64 (IntKind.wrap IntKind.i64 ((((YD.a z) : Nat) : Int) + 1)))) = (TV.v (AV.int IntKind.i64 (((YD.a y33) : Nat) : Int)))) ∧
 (((TV.v (AV.int IntKind.i64 (((YD.i z) : Nat) : Int))) = (TV.v (AV.int IntKind.i64 (((YD.i y33) : Nat) : Int)))) ∧
 (([(AV.int IntKind.i64 (N)), (AV.slice 7 (evL l) Cap.any)] = [(AV.int IntKind.i64 (N)), (AV.slice 7 (evL l) Cap.any)]) ∧
 (State.Le ((cs14 N l R).4 y33) σ'29))))))))
 (∃ y33 : YD, ((R (y33)) ∧
 (((TV.l 1 0) = (TV.l 1 0)) ∧
 (((TV.v (AV.ptr (YD.M z) 0)) = (TV.v (AV.ptr (YD.M y33) 0))) ∧
 (((TV.v (AV.int IntKind.i64 (IntKind.wrap IntKind.i64 ((((YD.a z) : Nat) : Int) + 1)))) = (TV.v (AV.int IntKind.i64 (((YD.a y33) : Nat) : Int)))) ∧
 (((TV.v (AV.int IntKind.i64 (((YD.i z) : Nat) : Int))) = (TV.v (AV.int IntKind.i64 (((YD.i y33) : Nat) : Int)))) ∧
 (([(AV.int IntKind.i64 (N)), (AV.slice 7 (evL l) Cap.any)] = [(AV.int IntKind.i64 (N)), (AV.slice 7 (evL l) Cap.any)]) ∧
 (State.Le ((cs14 N l R).4 y33) σ'29)))))))))))))))))) ∧
 (∀ x28 : Nat × T, (((Prod.snd (RM.next m27)) = (Option.some (x28))) → (∀ c'29 : MH, (∀ σ'30 : State, (((At c'29 σ'30) ∧
 ((∃ L31 : ML, (∃ p32 : PM, ((((ML.M L31) : Nat) = (M26)) ∧
 ((Rep c'29 L31 p32) ∧
 ((Abs p32 (Prod.fst (RM.next m27))) ∧
 (RM.Wf (Prod.fst (RM.next m27)))))))) ∧
 (∀ i31 : Nat, ((c'29 (MRole.x i31)) = (c25 (MRole.x i31)))))) → (∃ c31 : MH, (∃ M32 : Nat, (∃ m33 : RM, (([(AV.ptr (YD.M z) 0)] = [(AV.ptr (M32) 0)]) ∧
 (((At c31 σ'30) ∧
 (∃ L34 : ML, (∃ p35 : PM, ((((ML.M L34) : Nat) = (M32)) ∧
 ((Rep c31 L34 p35) ∧
 ((Abs p35 m33) ∧
 (RM.Wf m33))))))) ∧
 (bcase (RM.done m33)
 (∃ c34 : MH, (∃ M35 : Nat, (∃ m36 : RM, (([(AV.ptr (YD.M z) 0)] = [(AV.ptr (M35) 0)]) ∧
 (((At c34 σ'30) ∧
 (∃ L37 : ML, (∃ p38 : PM, ((((ML.M L37) : Nat) = (M35)) ∧
 ((Rep c34 L37 p38) ∧
 ((Abs p38 m36) ∧
 (RM.Wf m36))))))) ∧
 (bcase (decide (((((RM.work m36) : Nat) : Int) : Int) > (IntKind.wrap IntKind.i64 ((((YD.a z) : Nat) : Int) + 1))))
 False
 (∃ y37 : YD, ((R (y37)) ∧
 (((TV.l 1 0) = (TV.l 1 0)) ∧
 (((TV.v (AV.ptr (YD.M z) 0)) = (TV.v (AV.ptr (YD.M y37) 0))) ∧
 (((TV.v (AV.int IntKind.i64 (IntKind.wrap IntKind.i64 ((((YD.a z) : Nat) : Int) + 1)))) = (TV.v (AV.int IntKind.i64 (((YD.a y37) : Nat) : Int)))) ∧
 (((TV.v (AV.int IntKind.i64 (((YD.i z) : Nat) : Int))) = (TV.v (AV.int IntKind.i64 (((YD.i y37) : Nat) : Int)))) ∧
 (([(AV.int IntKind.i64 (N)), (AV.slice 7 (evL l) Cap.any)] = [(AV.int IntKind.i64 (N)), (AV.slice 7 (evL l) Cap.any)]) ∧
 (State.Le ((cs14 N l R).4 y37) σ'30))))))))))))))
 (∃ y34 : YD, ((R (y34)) ∧
 (((TV.l 1 0) = (TV.l 1 0)) ∧
 (((TV.v (AV.ptr (YD.M z) 0)) = (TV.v (AV.ptr (YD.M y34) 0))) ∧
 (((TV.v (AV.int IntKind.i64 (IntKind.wrap IntKind.i64 ((((YD.a z) : Nat) : Int) + 1)))) = (TV.v (AV.int IntKind.i64 (((YD.a y34) : Nat) : Int)))) ∧
 (((TV.v (AV.int IntKind.i64 (((YD.i z) : Nat) : Int))) = (TV.v (AV.int IntKind.i64 (((YD.i y34) : Nat) : Int)))) ∧
 (([(AV.int IntKind.i64 (N)), (AV.slice 7 (evL l) Cap.any)] = [(AV.int IntKind.i64 (N)), (AV.slice 7 (evL l) Cap.any)]) ∧
 (State.Le ((cs14 N l R).4 y34) σ'30))))))))))))))))))))))))))))))))))))))))))))))))))))))))))))
 (((TV.v (AV.tuple [])) = (TV.v (AV.tuple []))) ∧
 (((TV.v (AV.tuple [])) = (TV.v (AV.tuple []))) ∧
 (((TV.v (AV.tuple [])) = (TV.v (AV.tuple []))) ∧
 (∃ c6 : MH, (∃ M7 : Nat, (∃ m8 : RM, (([(AV.ptr (YD.M z) 0)] = [(AV.ptr (M7) 0)]) ∧
 (((At c6 (z.1)) ∧
 (∃ L9 : ML, (∃ p10 : PM, ((((ML.M L9) : Nat) = (M7)) ∧
 ((Rep c6 L9 p10) ∧
 ((Abs p10 m8) ∧
 (RM.Wf m8))))))) ∧
 ((((Prod.snd (RM.next m8)) = Option.none) → (∀ c'9 : MH, (∀ σ'10 : State, (((At c'9 σ'10) ∧
 ((∃ L11 : ML, (∃ p12 : PM, ((((ML.M L11) : Nat) = (M7)) ∧
 ((Rep c'9 L11 p12) ∧
 ((Abs p12 m8) ∧
 (RM.Wf m8)))))) ∧
 (∀ i11 : Nat, ((c'9 (MRole.x i11)) = (c6 (MRole.x i11)))))) → (∃ c11 : MH, (∃ M12 : Nat, (∃ m13 : RM, (([(AV.ptr (YD.M z) 0)] = [(AV.ptr (M12) 0)]) ∧
 (((At c11 σ'10) ∧
 (∃ L14 : ML, (∃ p15 : PM, ((((ML.M L14) : Nat) = (M12)) ∧
 ((Rep c11 L14 p15) ∧
 ((Abs p15 m13) ∧
 (RM.Wf m13))))))) ∧
 (bcase (RM.done m13)
 (∃ y14 : YD, ((R (y14)) ∧
 (((TV.l 1 0) = (TV.l 1 0)) ∧
 (((TV.v (AV.ptr (YD.M z) 0)) = (TV.v (AV.ptr (YD.M y14) 0))) ∧
 (((TV.v (AV.int IntKind.i64 (IntKind.wrap IntKind.i64 ((((YD.a z) : Nat) : Int) + 1)))) = (TV.v (AV.int IntKind.i64 (((YD.a y14) : Nat) : Int)))) ∧
 (((TV.v (AV.int IntKind.i64 (((YD.i z) : Nat) : Int))) = (TV.v (AV.int IntKind.i64 (((YD.i y14) : Nat) : Int)))) ∧
 (([(AV.int IntKind.i64 (N)), (AV.slice 7 (evL l) Cap.any)] = [(AV.int IntKind.i64 (N)), (AV.slice 7 (evL l) Cap.any)]) ∧
 (State.Le ((cs14 N l R).4 y14) σ'10))))))))
 (∃ y14 : YD, ((R (y14)) ∧
 (((TV.l 1 0) = (TV.l 1 0)) ∧
 (((TV.v (AV.ptr (YD.M z) 0)) = (TV.v (AV.ptr (YD.M y14) 0))) ∧
 (((TV.v (AV.int IntKind.i64 (IntKind.wrap IntKind.i64 ((((YD.a z) : Nat) : Int) + 1)))) = (TV.v (AV.int IntKind.i64 (((YD.a y14) : Nat) : Int)))) ∧
 (((TV.v (AV.int IntKind.i64 (((YD.i z) : Nat) : Int))) = (TV.v (AV.int IntKind.i64 (((YD.i y14) : Nat) : Int)))) ∧
 (([(AV.int IntKind.i64 (N)), (AV.slice 7 (evL l) Cap.any)] = [(AV.int IntKind.i64 (N)), (AV.slice 7 (evL l) Cap.any)]) ∧
 (State.Le ((cs14 N l R).4 y14) σ'10)))))))))))))))))) ∧
 (∀ x9 : Nat × T, (((Prod.snd (RM.next m8)) = (Option.some (x9))) → (∀ c'10 : MH, (∀ σ'11 : State, (((At c'10 σ'11) ∧
 ((∃ L12 : ML, (∃ p13 : PM, ((((ML.M L12) : Nat) = (M7)) ∧
 ((Rep c'10 L12 p13) ∧
 ((Abs p13 (Prod.fst (RM.next m8))) ∧
 (RM.Wf (Prod.fst (RM.next m8)))))))) ∧
 (∀ i12 : Nat, ((c'10 (MRole.x i12)) = (c6 (MRole.x i12)))))) → (∃ c12 : MH, (∃ M13 : Nat, (∃ m14 : RM, (([(AV.ptr (YD.M z) 0)] = [(AV.ptr (M13) 0)]) ∧
 (((At c12 σ'11) ∧
 (∃ L15 : ML, (∃ p16 : PM, ((((ML.M L15) : Nat) = (M13)) ∧
 ((Rep c12 L15 p16) ∧
 ((Abs p16 m14) ∧
 (RM.Wf m14))))))) ∧
 (bcase (RM.done m14)
 (∃ c15 : MH, (∃ M16 : Nat, (∃ m17 : RM, (([(AV.ptr (YD.M z) 0)] = [(AV.ptr (M16) 0)]) ∧
 (((At c15 σ'11) ∧
 (∃ L18 : ML, (∃ p19 : PM, ((((ML.M L18) : Nat) = (M16)) ∧
 ((Rep c15 L18 p19) ∧
 ((Abs p19 m17) ∧
 (RM.Wf m17))))))) ∧
 (bcase (decide (((((RM.work m17) : Nat) : Int) : Int) > (IntKind.wrap IntKind.i64 ((((YD.a z) : Nat) : Int) + 1))))
 False
 (∃ y18 : YD, ((R (y18)) ∧
 (((TV.l 1 0) = (TV.l 1 0)) ∧
 (((TV.v (AV.ptr (YD.M z) 0)) = (TV.v (AV.ptr (YD.M y18) 0))) ∧
 (((TV.v (AV.int IntKind.i64 (IntKind.wrap IntKind.i64 ((((YD.a z) : Nat) : Int) + 1)))) = (TV.v (AV.int IntKind.i64 (((YD.a y18) : Nat) : Int)))) ∧
 (((TV.v (AV.int IntKind.i64 (((YD.i z) : Nat) : Int))) = (TV.v (AV.int IntKind.i64 (((YD.i y18) : Nat) : Int)))) ∧
 (([(AV.int IntKind.i64 (N)), (AV.slice 7 (evL l) Cap.any)] = [(AV.int IntKind.i64 (N)), (AV.slice 7 (evL l) Cap.any)]) ∧
 (State.Le ((cs14 N l R).4 y18) σ'11))))))))))))))
 (∃ y15 : YD, ((R (y15)) ∧
 (((TV.l 1 0) = (TV.l 1 0)) ∧
 (((TV.v (AV.ptr (YD.M z) 0)) = (TV.v (AV.ptr (YD.M y15) 0))) ∧
 (((TV.v (AV.int IntKind.i64 (IntKind.wrap IntKind.i64 ((((YD.a z) : Nat) : Int) + 1)))) = (TV.v (AV.int IntKind.i64 (((YD.a y15) : Nat) : Int)))) ∧
 (((TV.v (AV.int IntKind.i64 (((YD.i z) : Nat) : Int))) = (TV.v (AV.int IntKind.i64 (((YD.i y15) : Nat) : Int)))) ∧
 (([(AV.int IntKind.i64 (N)), (AV.slice 7 (evL l) Cap.any)] = [(AV.int IntKind.i64 (N)), (AV.slice 7 (evL l) Cap.any)]) ∧
 (State.Le ((cs14 N l R).4 y15) σ'11))))))))))))))))))))))))))))))))))))))))) := by kernel_rfl
def T14 (N : Int) (l : List Ev) (I : YD → Prop) : LHand := fun _ Q a σ => ∃ y : YD, I y ∧ atF a ((ls14 N l I).F y) (FL94 N l) (y.σ.Le σ) ∧ ∀ σ', Q (.exit 0) (frm [] []) σ'
theorem vc14 (B : Nat) (w0 : World) (G : Nat → AV) (N : Int) (l : List Ev) (I : YD → Prop) (Q : AV → State → Prop) : (bodyX [] (EV B w0 G) (H14 (EV B w0 G)) (T14 N l I) annA noHint 14 [.agg [.int .i64 N, .slice 7 (evL l) .any]] noObj Q) =
 (((([] : List AV) = []) ∧
 (bcase (decide (((N) : Int) < 0))
 (Q (AV.bool true) (State.untok (noObj)))
 (bcase (decide (((N) : Int) > 64))
 (Q (AV.bool true) (State.untok (noObj)))
 (∃ c0 : MH, (∃ n1 : Int, (([(AV.int IntKind.i64 (N))] = [(AV.int IntKind.i64 (n1))]) ∧
 ((At c0 (State.untok (noObj))) ∧
 ((((((n1) : Int) < 0) ∨ ((64 : Int) < (n1))) → (((TV.v (AV.tuple [])) = (TV.v (AV.tuple []))) ∧
 (((TV.v (AV.tuple [])) = (TV.v (AV.tuple []))) ∧
 (Q (AV.bool false) (State.untok (noObj)))))) ∧
 ((((0 : Int) ≤ (n1)) ∧
 (((n1) : Int) ≤ 64)) → (∀ c'2 : MH, (∀ σ'3 : State, (∀ M4 : Nat, (((At c'2 σ'3) ∧
 ((∃ L5 : ML, (∃ p6 : PM, ((((ML.M L5) : Nat) = (M4)) ∧
 ((Rep c'2 L5 p6) ∧
 ((Abs p6 (RM.new (Int.toNat n1))) ∧
 (RM.Wf (RM.new (Int.toNat n1)))))))) ∧
 (∀ i5 : Nat, ((c'2 (MRole.x i5)) = (c0 (MRole.x i5)))))) → (∃ c5 : MH, (∃ M6 : Nat, (∃ m7 : RM, (([(AV.ptr (M4) 0)] = [(AV.ptr (M6) 0)]) ∧
 (((At c5 σ'3) ∧
 (∃ L8 : ML, (∃ p9 : PM, ((((ML.M L8) : Nat) = (M6)) ∧
 ((Rep c5 L8 p9) ∧
 ((Abs p9 m7) ∧
 (RM.Wf m7))))))) ∧
 (((TV.l 1 0) = (TV.l 1 0)) ∧
 (((TV.v (AV.int IntKind.i64 (N))) = (TV.v (AV.int IntKind.i64 (N)))) ∧
 (bcase (decide (((((RM.work m7) : Nat) : Int) : Int) > (N)))
 (Q (AV.bool false) σ'3)
 (∃ y8 : YD, ((I (y8)) ∧
 ((((TV.l 1 0) = (TV.l 1 0)) ∧
 (((TV.v (AV.ptr (M4) 0)) = (TV.v (AV.ptr (YD.M y8) 0))) ∧
 (((TV.v (AV.int IntKind.i64 (N))) = (TV.v (AV.int IntKind.i64 (((YD.a y8) : Nat) : Int)))) ∧
 (((TV.v (AV.int IntKind.i64 0)) = (TV.v (AV.int IntKind.i64 (((YD.i y8) : Nat) : Int)))) ∧
 (([(AV.int IntKind.i64 (N)), (AV.slice 7 (evL l) Cap.any)] = [(AV.int IntKind.i64 (N)), (AV.slice 7 (evL l) Cap.any)]) ∧
 (State.Le (y8.1) σ'3)))))) ∧
 (∀ σ'9 : State, (Q (AV.bool true) σ'9))))))))))))))))))))))))))) := by kernel_rfl
end Go.V
/- What each step counts. -/
set_option linter.unusedSimpArgs false
set_option linter.unusedVariables false
namespace Go.V

theorem put_cases (m : RM) (i : Int) (t : T) : (∃ e, m.put i t = (m, e) ∧ e ≠ 0) ∨ ∃ k, m.opened i = some k ∧ chkT t = 0 ∧ m.puts < 20000 ∧ m.put i t = (m.put1 k t, 0) := by
  unfold RM.put
  cases h : m.opened i with
  | none => exact .inl ⟨90, rfl, by decide⟩
  | some k =>
    dsimp only
    by_cases h1 : chkT t = 0
    · rw [if_neg (by simpa using h1)]
      by_cases h2 : 20000 ≤ m.puts
      · rw [if_pos h2]; exact .inl ⟨91, rfl, by decide⟩
      · rw [if_neg h2]; exact .inr ⟨k, rfl, h1, by omega, rfl⟩
    · rw [if_pos h1]; exact .inl ⟨3, rfl, by decide⟩
theorem close_cases (m : RM) (i : Int) : m.close i = (m, 90) ∨ ∃ k, m.opened i = some k ∧ m.close i = ((m.shut k).fresh, 0) := by
  unfold RM.close
  cases h : m.opened i with
  | none => exact .inl rfl
  | some k => exact .inr ⟨k, rfl, rfl⟩
theorem split_cases (m : RM) (i n : Int) : (∃ e, m.split i n = (m, [], e) ∧ e ≠ 0) ∨ ∃ k, m.opened i = some k ∧ 0 ≤ n ∧ n ≤ 64 ∧ m.I.length + n.toNat ≤ 4096 ∧ m.split i n = (((m.shut k).split1 k n.toNat).fresh, List.range' m.I.length n.toNat, 0) := by
  unfold RM.split
  cases h : m.opened i with
  | none => exact .inl ⟨90, rfl, by decide⟩
  | some k =>
    dsimp only
    by_cases h1 : n < 0 ∨ 64 < n
    · rw [if_pos h1]; exact .inl ⟨1, rfl, by decide⟩
    · rw [if_neg h1]
      by_cases h2 : 4096 < (m.I.length : Int) + n
      · rw [if_pos h2]; exact .inl ⟨2, rfl, by decide⟩
      · rw [if_neg h2]; exact .inr ⟨k, rfl, by omega, by omega, by omega, rfl⟩

/-- What a step counts: the items, those that lie there, the work. -/
theorem do_count {m : RM} (hW : m.Wf) (e : Ev) : (m.do e).1.puts = m.puts + (if e.k = 1 ∧ (m.do e).2.2 = 0 then 1 else 0) ∧ (m.do e).1.qsum + (m.do e).2.1.length = m.qsum + (if e.k = 1 ∧ (m.do e).2.2 = 0 then 1 else 0) ∧
    (m.do e).1.work ≤ m.work + 1 + (if e.k = 3 ∧ (m.do e).2.2 = 0 then e.n.toNat else 0) ∧ (e.k = 3 → (m.do e).2.2 = 0 → 0 ≤ e.n ∧ e.n ≤ 64) := by
  by_cases h1 : e.k = 1
  · have hd : m.do e = ((m.put e.i e.t).1, [], (m.put e.i e.t).2) := by unfold RM.do; rw [if_pos h1]
    rw [hd]
    rcases put_cases m e.i e.t with ⟨er, h, hne⟩ | ⟨k, ho, hc, hp, h⟩
    · rw [h]
      simp [hne, h1]
    · rw [h]
      obtain ⟨_, hk, hop⟩ := opened_some ho
      have := qsum_set (m' := m.put1 k e.t) hk rfl (List.length_append)
      simp at this
      refine ⟨by simp [h1]; rfl, by simp [h1]; omega, by simp [h1]; exact Nat.le_refl _, fun h3 => by omega⟩
  by_cases h2 : e.k = 2
  · have hd : m.do e = ((m.close e.i).1, [], (m.close e.i).2) := by unfold RM.do; rw [if_neg h1, if_pos h2]
    rw [hd]
    rcases close_cases m e.i with h | ⟨k, ho, h⟩
    · rw [h]; simp [h1, h2]
    · rw [h]
      obtain ⟨_, hk, hop⟩ := opened_some ho
      obtain ⟨w1, _, _, w4⟩ := shut_wf hW hk hop
      obtain ⟨_, _, _, _, g5, g6, g7, _⟩ := fresh_wf w1 fun j hj => hj.elim
      have h3' : ¬ e.k = 3 := by omega
      simp only [h1, h3', false_and, if_false, List.length_nil, Nat.add_zero]
      exact ⟨g6, by rw [g7, w4], by rw [g5]; exact Nat.le_refl _, fun h3 => h3.elim⟩
  by_cases h3 : e.k = 3
  · have hd : m.do e = ((m.split e.i e.n).1, [], (m.split e.i e.n).2.2) := by unfold RM.do; rw [if_neg h1, if_neg h2, if_pos h3]
    rw [hd]
    rcases split_cases m e.i e.n with ⟨er, h, hne⟩ | ⟨k, ho, hn1, hn2, hl, h⟩
    · rw [h]; simp [h1, hne]
    · rw [h]
      obtain ⟨_, hk, hop⟩ := opened_some ho
      obtain ⟨w1, w2, _, w4⟩ := shut_wf hW hk hop
      have hsl : (m.shut k).I.length = m.I.length := List.length_set
      obtain ⟨v1, _, _, v4⟩ := split1_wf (n := e.n.toNat) w1 (by omega) (by rw [RM.set_at (m := m.shut k) (I := m.I) rfl hk, if_pos rfl]) (by rw [hsl]; exact hl) w2
      obtain ⟨_, _, _, _, g5, g6, g7, _⟩ := fresh_wf v1 fun j hj => hj.elim
      simp only [h1, false_and, if_false, List.length_nil, Nat.add_zero]
      exact ⟨g6, by rw [g7, v4, w4], by rw [g5, if_pos ⟨h3, by first | rfl | trivial⟩]; exact Nat.le_refl _, fun _ _ => ⟨hn1, hn2⟩⟩
  · have hd : m.do e = (m.next.1, m.next.2.toList, 0) := by unfold RM.do; rw [if_neg h1, if_neg h2, if_neg h3]
    rw [hd]
    rcases next_cases hW with ⟨_, h⟩ | ⟨k, r, t, q, ht, hq, h⟩
    · rw [h]; simp [h1, h3]
    · rw [h]
      obtain ⟨w1, _, _, w4, hk, hkf⟩ := take1_wf hW ht hq
      have hat : (m.take1 k r q).at k = { m.at k with q := q } := by rw [RM.set_at (m := m.take1 k r q) (I := m.I) rfl hk, if_pos rfl]
      obtain ⟨_, _, _, _, g5, g6, g7, _⟩ := fresh_wf w1 fun j hj => by subst hj; rw [hat]; exact hkf
      simp only [h1, h3, false_and, if_false, Nat.add_zero, Option.toList, List.length_singleton]
      exact ⟨g6, by show (m.take1 k r q).fresh.qsum + 1 = _; rw [g7, w4], by show (m.take1 k r q).fresh.work ≤ _; rw [g5]; exact Nat.le_refl _, fun h => h.elim⟩
theorem next_work {m : RM} (hW : m.Wf) : m.next.1.work ≤ m.work + 1 := by
  rcases next_cases hW with ⟨_, h⟩ | ⟨k, r, t, q, ht, hq, h⟩
  · rw [h]; show m.work ≤ _; omega
  · rw [h]
    obtain ⟨w1, _, _, w4, hk, hkf⟩ := take1_wf hW ht hq
    have hat : (m.take1 k r q).at k = { m.at k with q := q } := by rw [RM.set_at (m := m.take1 k r q) (I := m.I) rfl hk, if_pos rfl]
    obtain ⟨_, _, _, _, g5, _⟩ := fresh_wf w1 fun j hj => by subst hj; rw [hat]; exact hkf
    show (m.take1 k r q).fresh.work ≤ _
    rw [g5]; exact Nat.le_refl _
theorem inputs_nil {m : RM} : m.inputs = [] ↔ m.opens = 0 := by
  rw [opens_zero]
  unfold RM.inputs
  rw [List.filter_eq_nil_iff]
  constructor
  · intro h x hx
    obtain ⟨i, hi, rfl⟩ := List.getElem_of_mem hx
    have := h i (List.mem_range.2 hi)
    unfold RM.at at this
    simp [List.getD, List.getElem?_eq_getElem hi] at this
    exact this
  · intro h i hi
    have hi := List.mem_range.1 hi
    have := h _ (List.getElem_mem hi)
    unfold RM.at
    simp [List.getD, List.getElem?_eq_getElem hi, this]
theorem done_iff {m : RM} : m.done = (decide (m.inputs.length = 0) && decide (m.qsum = 0)) := by
  rw [Bool.eq_iff_iff, Bool.and_eq_true, decide_eq_true_eq, decide_eq_true_eq]
  have h1 : m.inputs.length = 0 ↔ ∀ x ∈ m.I, x.op = false := by rw [List.length_eq_zero_iff, inputs_nil, opens_zero]
  rw [h1, qsum_zero]
  unfold RM.done RI.dead
  rw [List.all_eq_true]
  constructor
  · intro a
    refine ⟨fun x hx => ?_, fun x hx => ?_⟩
    · have := a x hx; simp at this; exact this.1
    · have := a x hx; simp at this; exact this.2
  · rintro ⟨a1, a2⟩ x hx
    simp [a1 x hx, a2 x hx]
theorem done_opened {m : RM} (h : m.done = true) (i : Int) : m.opened i = none := by
  rw [done_iff, Bool.and_eq_true, decide_eq_true_eq] at h
  have h1 := opens_zero.1 (inputs_nil.1 (List.length_eq_zero_iff.1 h.1))
  cases ho : m.opened i with
  | none => rfl
  | some k =>
    obtain ⟨_, hk, hop⟩ := opened_some ho
    have := h1 _ (List.getElem_mem hk)
    unfold RM.at at hop
    simp [List.getD, List.getElem?_eq_getElem hk, this] at hop
theorem new_count (k : Nat) : (RM.new k).puts = 0 ∧ (RM.new k).qsum = 0 ∧ (RM.new k).work = k := ⟨rfl, by simp [RM.qsum, RM.sumI, RM.new], rfl⟩
end Go.V
/- The law StreamWork. -/
set_option maxRecDepth 1000000
set_option linter.unusedVariables false
set_option linter.unusedSimpArgs false
set_option linter.unusedSectionVars false
namespace Go.V
open Go Go.Proofs

structure ID14 (y : YD) : Prop where
  at_ : At y.c y.σ
  rep : MRep y.c y.M y.m
  xt : XT y.c
  work : y.m.work ≤ y.a
  lim : y.a ≤ 64 + 66 * y.i
  i : y.i ≤ 150
structure IP14 (z : YD) : Prop where
  at_ : At z.c z.σ
  rep : MRep z.c z.M z.m
  xt : XT z.c
  work : z.m.work ≤ z.a
  lim : z.a ≤ 64 + 66 * z.i + 65
  i : z.i < 150
structure IR14 (i : Nat) (z : YD) : Prop where
  at_ : At z.c z.σ
  rep : MRep z.c z.M z.m
  xt : XT z.c
  work : z.m.work ≤ z.a
  lim : z.a ≤ 64 + 66 * (z.i + 1)
  i : z.i = i
section
variable {B : Nat} {w0 : World}
theorem c55_ok {G : Nat → AV} : ContractOk (EV B w0 G) 55 C55r := by
  rintro args σ Q ⟨s, rfl, hQ⟩
  refine ACalls.post_wk ?_
  exact bodyC_ok (EV_mixed B w0 G) H0_ok (fun l hl _ Q a σ k => k.elim) ((vc55 B w0 G σ s _).mpr ⟨_, σ, Wk.agg (.cons (.refl _) (.cons (.refl _) (.cons (.refl _) (.cons (Wk.nil 4) .nil)))), .refl _, hQ⟩)
theorem H14_ok : HOk1 (EV B w0 G1) (H14 (EV B w0 G1)) := hnd_ok (EV_mixed B w0 G1) (contracts_cons c16_ok (contracts_cons c41_ok (contracts_cons (c45_ok G1_noId) (contracts_cons c47r_ok (contracts_cons c48_ok (contracts_cons c54r_ok (contracts_cons (c43_ok G1_noId) (contracts_cons (c56_ok G1_noId) (contracts_cons (c44s_ok G1_noId) (contracts_cons c55_ok contracts_nil))))))))))
theorem headId_14 : headId (partAt [17] (bodyOf (fnPart Tryz.prog [] 14 0)) 0) = some 17 := by kernel_rfl

theorem tail14_ok (N : Int) (l : List Ev) (z : YD) (e : Ev) (hz : IP14 z) : AWp (EV B w0 G1) none (fnTmps Tryz.prog 14) (partAt [17] (bodyOf (fnPart Tryz.prog [] 14 0)) 0) ((cs14 N l (IR14 z.i)).post) (frm (F14c z) (FL14c N l e)) z.σ := by
  obtain ⟨L0, p0, _, _, _, hW⟩ := hz.rep
  have hwk := hW.w.work
  have hlim := hz.lim
  have hi := hz.i
  have hwa := hz.work
  have w1 : IntKind.wrap .i64 ((z.a : Int) + 1) = ((z.a + 1 : Nat) : Int) := by rw [wr_small (by omega) (by omega)]; omega
  have hnw := next_work hW
  refine wpX_ok H14_ok (EV_mixed B w0 G1) (L := fun _ _ _ _ => False) _ _ _ _ (fun p hp hc Q a σ k => k.elim) (by kernel_rfl) ((vc14t B w0 G1 N l (IR14 z.i) z e).mpr ?_)
  -- behind Next
  have fin : ∀ (c : MH) (σ : State) (m : RM), At c σ → MRep c z.M m → XT c → m.work ≤ z.m.work + 1 → ∃ y' : YD, IR14 z.i y' ∧ (TV.l 1 0 = TV.l 1 0) ∧ (TV.v (.ptr z.M 0) = TV.v (.ptr y'.M 0)) ∧ (TV.v (.int .i64 (IntKind.wrap .i64 ((z.a : Int) + 1))) = TV.v (.int .i64 (y'.a : Int))) ∧ (TV.v (.int .i64 (z.i : Int)) = TV.v (.int .i64 (y'.i : Int))) ∧
      ([AV.int .i64 N, .slice 7 (evL l) .any] = [AV.int .i64 N, .slice 7 (evL l) .any]) ∧ ((cs14 N l (IR14 z.i)).S y').Le σ := fun c σ m g1 g2 g3 g4 =>
    ⟨⟨σ, c, z.M, m, z.a + 1, z.b, z.i⟩, ⟨g1, g2, g3, by show m.work ≤ z.a + 1; omega, by show z.a + 1 ≤ 64 + 66 * (z.i + 1); omega, rfl⟩, rfl, rfl, by rw [w1], rfl, rfl, .refl _⟩
  refine ⟨z.c, z.M, z.m, rfl, ⟨hz.at_, hz.rep⟩, bcase_of (fun h => by have h := of_decide_eq_true h; omega) (fun _ => ⟨z.c, z.M, z.m, rfl, ⟨hz.at_, hz.rep⟩, bcase_of (fun hd => ?_) (fun hd => ⟨rfl, rfl, rfl, z.c, z.M, z.m, rfl, ⟨hz.at_, hz.rep⟩, fun hn c' σ' ⟨g1, g2, g3⟩ => ?_, fun x hx c' σ' ⟨g1, g2, g3⟩ => ?_⟩)⟩)⟩
  · have hop : ∀ i, z.m.opened i = none := fun i => done_opened hd i
    have hin : z.m.inputs.length = 0 := by
      have := hd
      rw [done_iff, Bool.and_eq_true, decide_eq_true_eq] at this
      exact this.1
    have hput : ∀ i t, z.m.put i t = (z.m, 90) := fun i t => by unfold RM.put; rw [hop]
    have hclo : ∀ i, z.m.close i = (z.m, 90) := fun i => by unfold RM.close; rw [hop]
    refine ⟨z.c, z.M, z.m, rfl, ⟨hz.at_, hz.rep⟩, fun c1 σ1 ⟨g1, g2, g3⟩ => bcase_of (fun h => by have h := of_decide_eq_true h; rw [intsV_len, hin] at h; simp at h) (fun _ => ⟨⟨⟨[97]⟩⟩, rfl, rfl, rfl, rfl, c1, z.M, z.m, e.i, .mk 3 0 ⟨⟨[97]⟩⟩ [], rfl, ⟨g1, g2, hz.xt.frame g3⟩, fun c2 σ2 ⟨k1, k2, k3⟩ => ?_⟩)⟩
    · rw [hput] at k2 ⊢
      refine bcase_of (fun h => by simp at h) (fun _ => ⟨c2, z.M, z.m, e.i, rfl, ⟨k1, k2⟩, fun c3 σ3 ⟨j1, j2, j3⟩ => ?_⟩)
      rw [hclo] at j2 ⊢
      have hx3 : XT c3 := ((hz.xt.frame g3).frame k3).frame j3
      refine bcase_of (fun h => by simp at h) (fun _ => ⟨c3, z.M, z.m, rfl, ⟨j1, j2⟩, fun hn c' σ' ⟨a1, a2, a3⟩ => ?_, fun x hx c' σ' ⟨a1, a2, a3⟩ => ?_⟩)
      · exact ⟨c', z.M, z.m, rfl, ⟨a1, a2⟩, bcase_of (fun _ => fin c' σ' z.m a1 a2 (hx3.frame a3) (by omega)) (fun _ => fin c' σ' z.m a1 a2 (hx3.frame a3) (by omega))⟩
      · refine ⟨c', z.M, _, rfl, ⟨a1, a2⟩, bcase_of (fun _ => ⟨c', z.M, _, rfl, ⟨a1, a2⟩, bcase_of (fun h => ?_) (fun _ => fin c' σ' _ a1 a2 (hx3.frame a3) hnw)⟩) (fun _ => fin c' σ' _ a1 a2 (hx3.frame a3) hnw)⟩
        rw [w1] at h
        have h := of_decide_eq_true h
        omega
  · exact ⟨c', z.M, z.m, rfl, ⟨g1, g2⟩, bcase_of (fun _ => fin c' σ' z.m g1 g2 (hz.xt.frame g3) (by omega)) (fun _ => fin c' σ' z.m g1 g2 (hz.xt.frame g3) (by omega))⟩
  · refine ⟨c', z.M, _, rfl, ⟨g1, g2⟩, bcase_of (fun _ => ⟨c', z.M, _, rfl, ⟨g1, g2⟩, bcase_of (fun h => ?_) (fun _ => fin c' σ' _ g1 g2 (hz.xt.frame g3) hnw)⟩) (fun _ => fin c' σ' _ g1 g2 (hz.xt.frame g3) hnw)⟩
    rw [w1] at h
    have h := of_decide_eq_true h
    omega

theorem work_ok (N : Int) (l : List Ev) : ACalls (EV B w0 G1) 14 [.agg [.int .i64 N, .slice 7 (evL l) .any]] noObj (fun v _ => v = .bool true) := by
  refine bodyX_ok (cuts := []) (EV_mixed B w0 G1) H14_ok (fun lp hl _ Q a σ kk => ?_) ((vc14 B w0 G1 N l ID14 _).mpr ⟨rfl, bcase_of (fun _ => rfl) (fun h1 => bcase_of (fun _ => rfl) (fun h2 => ?_))⟩)
  · change lp ∈ fnParts Tryz.prog [] 14 at hl
    rw [fnParts_14] at hl
    simp only [List.mem_cons, List.not_mem_nil, or_false] at hl
    subst hl
    obtain ⟨y, hI, ha, hq⟩ := kk
    refine awp_loopS (ls14 N l ID14) (x0 := y) (fun y hI => ?_) (fun y hI e a σ hne kk => ?_) hI ha
    · have hI : ID14 y := hI
      show AWp _ _ _ _ _ (frm [(1, .l 1 0), (3, .v (.ptr y.M 0)), (5, .v (.int .i64 (y.a : Int))), (6, .v (.int .i64 (y.i : Int)))] (FL94 N l)) y.σ
      refine wpX_ok H14_ok (EV_mixed B w0 G1) (L := T14c N l (fun z e => IP14 z ∧ z.i = y.i) (IR14 y.i)) _ _ _ _ (fun p hp hc Q a σ k => ?_) (by kernel_rfl) ((vc14l B w0 G1 N l (fun z e => IP14 z ∧ z.i = y.i) (IR14 y.i) _ y).mpr ?_)
      · rw [parts14] at hp
        simp only [List.mem_cons, List.not_mem_nil, or_false] at hp
        subst hp
        obtain ⟨z, e, ⟨hz, hzi⟩, ha, hq⟩ := k
        have ht := tail14_ok (B := B) (w0 := w0) N l z e hz
        rw [hzi] at ht
        exact awp_cut (cs14 N l (IR14 y.i)) ht ha hq
      refine bcase_of (fun h => bcase_of (fun h150 => ?_) (fun _ => trivial)) (fun _ => trivial)
      have h := of_decide_eq_true h
      have h150 := of_decide_eq_true h150
      have hi : y.i < l.length := by rw [evL_len] at h; omega
      have hget : AV.vptr (AV.cells (List.getD (evL l) (Int.toNat (y.i : Int)) .undef)) = .vptr (evc l[y.i]) := by rw [Int.toNat_natCast, ev_get hi]; rfl
      have w1 : IntKind.wrap .i64 ((y.i : Int) + 1) = ((y.i + 1 : Nat) : Int) := by rw [wr_small (by omega) (by omega)]; omega
      have hμ : l.length - (y.i + 1) < l.length - y.i := by omega
      have hrng : (0 : Int) ≤ (y.i : Int) ∧ (y.i : Int) < ((evL l).length : Int) := ⟨by omega, h⟩
      obtain ⟨L0, p0, _, _, _, hW⟩ := hI.rep
      have hlim := hI.lim
      have hwa := hI.work
      have w2 : IntKind.wrap .i64 ((y.a : Int) + 1) = ((y.a + 1 : Nat) : Int) := by rw [wr_small (by omega) (by omega)]; omega
      obtain ⟨_, _, hc3, hc4⟩ := do_count hW l[y.i]
      refine ⟨hrng, l[y.i], hget, y.c, y.M, y.m, l[y.i], rfl, ⟨hI.at_, hI.rep, hI.xt⟩, fun c' σ' ⟨g1, g2, g3⟩ => ?_⟩
      have nxt : ∀ y' : YD, IR14 y.i y' → ∃ x' : YD, (ID14 x' ∧ (ls14 N l ID14).μ x' < (ls14 N l ID14).μ y) ∧ (TV.l 1 0 = TV.l 1 0) ∧ (TV.v (.ptr y'.M 0) = TV.v (.ptr x'.M 0)) ∧ (TV.v (.int .i64 (y'.a : Int)) = TV.v (.int .i64 (x'.a : Int))) ∧ (TV.v (.int .i64 (IntKind.wrap .i64 ((y'.i : Int) + 1))) = TV.v (.int .i64 (x'.i : Int))) ∧
          ([AV.int .i64 N, .slice 7 (evL l) .any] = [AV.int .i64 N, .slice 7 (evL l) .any]) ∧ ((ls14 N l ID14).S x').Le y'.σ := fun y' hr => by
        have e := hr.i
        have el := hr.lim
        refine ⟨⟨y'.σ, y'.c, y'.M, y'.m, y'.a, y'.b, y.i + 1⟩, ⟨⟨hr.at_, hr.rep, hr.xt, hr.work, by show y'.a ≤ 64 + 66 * (y.i + 1); omega, by show y.i + 1 ≤ 150; omega⟩, hμ⟩, rfl, rfl, rfl, by rw [e, w1], rfl, .refl _⟩
      have hx' := hI.xt.frame g3
      refine bcase_of (fun hk => bcase_of (fun he => ?_) (fun he => ?_)) (fun hk => ?_)
      · have hk : l[y.i].k = 3 := by simpa using hk
        have he : (y.m.do l[y.i]).2.2 = 0 := by simpa using he
        obtain ⟨n1, n2⟩ := hc4 hk he
        rw [if_pos ⟨hk, he⟩] at hc3
        have w3 : IntKind.wrap .i64 (((y.a + 1 : Nat) : Int) + l[y.i].n) = ((y.a + 1 + l[y.i].n.toNat : Nat) : Int) := by rw [wr_small (by omega) (by omega)]; omega
        exact ⟨⟨σ', c', y.M, _, y.a + 1 + l[y.i].n.toNat, 0, y.i⟩, l[y.i], ⟨⟨g1, g2, hx', by show (y.m.do l[y.i]).1.work ≤ y.a + 1 + l[y.i].n.toNat; omega, by show y.a + 1 + l[y.i].n.toNat ≤ 64 + 66 * y.i + 65; omega, by show y.i < 150; omega⟩, rfl⟩, ⟨rfl, rfl, by rw [w2, w3], rfl, rfl, rfl, rfl, .refl _⟩, nxt⟩
      · have he : (y.m.do l[y.i]).2.2 ≠ 0 := by simpa using he
        rw [if_neg (fun h => he h.2)] at hc3
        exact ⟨⟨σ', c', y.M, _, y.a + 1, 0, y.i⟩, l[y.i], ⟨⟨g1, g2, hx', by show (y.m.do l[y.i]).1.work ≤ y.a + 1; omega, by show y.a + 1 ≤ 64 + 66 * y.i + 65; omega, by show y.i < 150; omega⟩, rfl⟩, ⟨rfl, rfl, by rw [w2], rfl, rfl, rfl, rfl, .refl _⟩, nxt⟩
      · have hk : l[y.i].k ≠ 3 := by simpa using hk
        rw [if_neg (fun h => hk h.1)] at hc3
        exact ⟨⟨σ', c', y.M, _, y.a + 1, 0, y.i⟩, l[y.i], ⟨⟨g1, g2, hx', by show (y.m.do l[y.i]).1.work ≤ y.a + 1; omega, by show y.a + 1 ≤ 64 + 66 * y.i + 65; omega, by show y.i < 150; omega⟩, rfl⟩, ⟨rfl, rfl, by rw [w2], rfl, rfl, rfl, rfl, .refl _⟩, nxt⟩
    · cases e with
      | exit i =>
        match i, kk with
        | 0, kk => exact ⟨_, σ, (atF_ok (F := []) (FL := []) (R := True) ⟨⟩).1, .refl _, hq σ⟩
      | normal => exact absurd rfl hne
      | _ => exact kk.elim
  · have h1 := of_decide_eq_false h1
    have h2 := of_decide_eq_false h2
    obtain ⟨n1, n2, n3⟩ := new_count N.toNat
    have hN : (N.toNat : Int) = N := by omega
    refine ⟨noneH, N, rfl, noneH_at _, fun h => by omega, fun _ c' σ' M ⟨g1, g2, g3⟩ => ⟨c', M, _, rfl, ⟨g1, g2⟩, rfl, rfl, bcase_of (fun h => ?_) (fun _ => ?_)⟩⟩
    · have h := of_decide_eq_true h
      rw [n3] at h; omega
    · exact ⟨⟨σ', c', M, RM.new N.toNat, N.toNat, 0, 0⟩, ⟨g1, g2, noneH_xt.frame g3, by show (RM.new N.toNat).work ≤ N.toNat; omega, by show N.toNat ≤ 64 + 66 * 0; omega, by show 0 ≤ 150; omega⟩, ⟨rfl, rfl, by rw [← hN]; rfl, rfl, rfl, .refl _⟩, fun σ3 => rfl⟩
end
end Go.V
