import Derived.Test.YtgnjidopnplbbaaGreatDoorR33
/- Conditions: Merge, in the program and in the reference; the law StreamMerges. -/
set_option maxRecDepth 1000000
set_option linter.unusedVariables false
namespace Go.V
open Go Go.Proofs

/- told -/
def C102:Contract:=fun args σ K => ∃ (e:Ev) (p:Nat),args = [.agg [.int .i64 e.k,.int .i64 e.i,.int .i64 e.n,.int .i64 e.t.k,.int .i64 e.t.n,.str e.t.s,.slice 4 (tcellL e.t.l) .any],.ptr p 0] /\
 ((isEv e = false -> K .niliface σ) /\
  (isEv e = true -> e.k = 1 -> K (.iface 206 (.agg [.int .i64 e.i,.int .i64 e.t.k,.int .i64 e.t.n,.str e.t.s,.slice 4 (tcellL e.t.l) .any])) σ) /\
  (isEv e = true -> e.k = 2 -> K (.iface 208 (.agg [.int .i64 e.i])) σ) /\
  (isEv e = true -> e.k = 3 -> K (.iface 210 (.agg [.int .i64 e.i,.int .i64 e.n])) σ) /\
  (isEv e = true -> e.k = 4 -> K (.iface 212 (.agg [.ptr p 0])) σ))
theorem vc102 (B:Nat) (w0:World) (G:Nat -> AV) (σ:State) (e:Ev) (p:Nat) (Q:AV -> State -> Prop):(bodyC (EV B w0 G) (H0 (EV B w0 G)) (fun _ _ _ _ => False) annA noHint 102 [.agg [.int .i64 e.k,.int .i64 e.i,.int .i64 e.n,.int .i64 e.t.k,.int .i64 e.t.n,.str e.t.s,.slice 4 (tcellL e.t.l) .any],.ptr p 0] σ Q) =
 ((bcase (((T.k (Ev.t e)):Int) == 0)
 (bcase (((T.n (Ev.t e)):Int) == 0)
 (bcase (bseq (T.s (Ev.t e)) { data:=#[] })
 (bcase (((Ev.k e):Int) == 1)
 (bcase (((Ev.n e):Int) == 0)
 (Q (AV.iface 206 (AV.agg [(AV.int .i64 (Ev.i e)),(AV.int .i64 (T.k (Ev.t e))),(AV.int .i64 (T.n (Ev.t e))),(AV.str (T.s (Ev.t e))),(AV.slice 4 (tcellL (T.l (Ev.t e))) Cap.any)])) σ)
 (bcase (((Ev.k e):Int) == 2)
 (bcase (((Ev.n e):Int) == 0)
 (bcase (((((List.length (tcellL (T.l (Ev.t e)))):Nat):Int):Int) == 0)
 (Q (AV.iface 208 (AV.agg [(AV.int .i64 (Ev.i e))])) σ)
 (bcase (((Ev.k e):Int) == 3)
 (bcase (((((List.length (tcellL (T.l (Ev.t e)))):Nat):Int):Int) == 0)
 (Q (AV.iface 210 (AV.agg [(AV.int .i64 (Ev.i e)),(AV.int .i64 (Ev.n e))])) σ)
 (bcase (((Ev.k e):Int) == 4)
 (bcase (((Ev.i e):Int) == 0)
 (bcase (((Ev.n e):Int) == 0)
 (bcase (((((List.length (tcellL (T.l (Ev.t e)))):Nat):Int):Int) == 0)
 (Q (AV.iface 212 (AV.agg [(AV.ptr (p) 0)])) σ)
 (Q AV.niliface σ))
 (Q AV.niliface σ))
 (Q AV.niliface σ))
 (Q AV.niliface σ)))
 (bcase (((Ev.k e):Int) == 4)
 (bcase (((Ev.i e):Int) == 0)
 (bcase (((Ev.n e):Int) == 0)
 (bcase (((((List.length (tcellL (T.l (Ev.t e)))):Nat):Int):Int) == 0)
 (Q (AV.iface 212 (AV.agg [(AV.ptr (p) 0)])) σ)
 (Q AV.niliface σ))
 (Q AV.niliface σ))
 (Q AV.niliface σ))
 (Q AV.niliface σ))))
 (bcase (((Ev.k e):Int) == 3)
 (bcase (((((List.length (tcellL (T.l (Ev.t e)))):Nat):Int):Int) == 0)
 (Q (AV.iface 210 (AV.agg [(AV.int .i64 (Ev.i e)),(AV.int .i64 (Ev.n e))])) σ)
 (bcase (((Ev.k e):Int) == 4)
 (bcase (((Ev.i e):Int) == 0)
 (bcase (((Ev.n e):Int) == 0)
 (bcase (((((List.length (tcellL (T.l (Ev.t e)))):Nat):Int):Int) == 0)
 (Q (AV.iface 212 (AV.agg [(AV.ptr (p) 0)])) σ)
 (Q AV.niliface σ))
 (Q AV.niliface σ))
 (Q AV.niliface σ))
 (Q AV.niliface σ)))
 (bcase (((Ev.k e):Int) == 4)
 (bcase (((Ev.i e):Int) == 0)
 (bcase (((Ev.n e):Int) == 0)
 (bcase (((((List.length (tcellL (T.l (Ev.t e)))):Nat):Int):Int) == 0)
 (Q (AV.iface 212 (AV.agg [(AV.ptr (p) 0)])) σ)
 (Q AV.niliface σ))
 (Q AV.niliface σ))
 (Q AV.niliface σ))
 (Q AV.niliface σ))))
 (bcase (((Ev.k e):Int) == 3)
 (bcase (((((List.length (tcellL (T.l (Ev.t e)))):Nat):Int):Int) == 0)
 (Q (AV.iface 210 (AV.agg [(AV.int .i64 (Ev.i e)),(AV.int .i64 (Ev.n e))])) σ)
 (bcase (((Ev.k e):Int) == 4)
 (bcase (((Ev.i e):Int) == 0)
 (bcase (((Ev.n e):Int) == 0)
 (bcase (((((List.length (tcellL (T.l (Ev.t e)))):Nat):Int):Int) == 0)
 (Q (AV.iface 212 (AV.agg [(AV.ptr (p) 0)])) σ)
 (Q AV.niliface σ))
 (Q AV.niliface σ))
 (Q AV.niliface σ))
 (Q AV.niliface σ)))
 (bcase (((Ev.k e):Int) == 4)
 (bcase (((Ev.i e):Int) == 0)
 (bcase (((Ev.n e):Int) == 0)
 (bcase (((((List.length (tcellL (T.l (Ev.t e)))):Nat):Int):Int) == 0)
 (Q (AV.iface 212 (AV.agg [(AV.ptr (p) 0)])) σ)
 (Q AV.niliface σ))
 (Q AV.niliface σ))
 (Q AV.niliface σ))
 (Q AV.niliface σ)))))
 (bcase (((Ev.k e):Int) == 2)
 (bcase (((Ev.n e):Int) == 0)
 (bcase (((((List.length (tcellL (T.l (Ev.t e)))):Nat):Int):Int) == 0)
 (Q (AV.iface 208 (AV.agg [(AV.int .i64 (Ev.i e))])) σ)
 (bcase (((Ev.k e):Int) == 3)
 (bcase (((((List.length (tcellL (T.l (Ev.t e)))):Nat):Int):Int) == 0)
 (Q (AV.iface 210 (AV.agg [(AV.int .i64 (Ev.i e)),(AV.int .i64 (Ev.n e))])) σ)
 (bcase (((Ev.k e):Int) == 4)
 (bcase (((Ev.i e):Int) == 0)
 (bcase (((Ev.n e):Int) == 0)
 (bcase (((((List.length (tcellL (T.l (Ev.t e)))):Nat):Int):Int) == 0)
 (Q (AV.iface 212 (AV.agg [(AV.ptr (p) 0)])) σ)
 (Q AV.niliface σ))
 (Q AV.niliface σ))
 (Q AV.niliface σ))
 (Q AV.niliface σ)))
 (bcase (((Ev.k e):Int) == 4)
 (bcase (((Ev.i e):Int) == 0)
 (bcase (((Ev.n e):Int) == 0)
 (bcase (((((List.length (tcellL (T.l (Ev.t e)))):Nat):Int):Int) == 0)
 (Q (AV.iface 212 (AV.agg [(AV.ptr (p) 0)])) σ)
 (Q AV.niliface σ))
 (Q AV.niliface σ))
 (Q AV.niliface σ))
 (Q AV.niliface σ))))
 (bcase (((Ev.k e):Int) == 3)
 (bcase (((((List.length (tcellL (T.l (Ev.t e)))):Nat):Int):Int) == 0)
 (Q (AV.iface 210 (AV.agg [(AV.int .i64 (Ev.i e)),(AV.int .i64 (Ev.n e))])) σ)
 (bcase (((Ev.k e):Int) == 4)
 (bcase (((Ev.i e):Int) == 0)
 (bcase (((Ev.n e):Int) == 0)
 (bcase (((((List.length (tcellL (T.l (Ev.t e)))):Nat):Int):Int) == 0)
 (Q (AV.iface 212 (AV.agg [(AV.ptr (p) 0)])) σ)
 (Q AV.niliface σ))
 (Q AV.niliface σ))
 (Q AV.niliface σ))
 (Q AV.niliface σ)))
 (bcase (((Ev.k e):Int) == 4)
 (bcase (((Ev.i e):Int) == 0)
 (bcase (((Ev.n e):Int) == 0)
 (bcase (((((List.length (tcellL (T.l (Ev.t e)))):Nat):Int):Int) == 0)
 (Q (AV.iface 212 (AV.agg [(AV.ptr (p) 0)])) σ)
 (Q AV.niliface σ))
 (Q AV.niliface σ))
 (Q AV.niliface σ))
 (Q AV.niliface σ))))
 (bcase (((Ev.k e):Int) == 3)
 (bcase (((((List.length (tcellL (T.l (Ev.t e)))):Nat):Int):Int) == 0)
 (Q (AV.iface 210 (AV.agg [(AV.int .i64 (Ev.i e)),(AV.int .i64 (Ev.n e))])) σ)
 (bcase (((Ev.k e):Int) == 4)
 (bcase (((Ev.i e):Int) == 0)
 (bcase (((Ev.n e):Int) == 0)
 (bcase (((((List.length (tcellL (T.l (Ev.t e)))):Nat):Int):Int) == 0)
 (Q (AV.iface 212 (AV.agg [(AV.ptr (p) 0)])) σ)
 (Q AV.niliface σ))
 (Q AV.niliface σ))
 (Q AV.niliface σ))
 (Q AV.niliface σ)))
 (bcase (((Ev.k e):Int) == 4)
 (bcase (((Ev.i e):Int) == 0)
 (bcase (((Ev.n e):Int) == 0)
 (bcase (((((List.length (tcellL (T.l (Ev.t e)))):Nat):Int):Int) == 0)
 (Q (AV.iface 212 (AV.agg [(AV.ptr (p) 0)])) σ)
 (Q AV.niliface σ))
 (Q AV.niliface σ))
 (Q AV.niliface σ))
 (Q AV.niliface σ)))))
 (bcase (((Ev.k e):Int) == 1)
 (bcase (((Ev.n e):Int) == 0)
 (Q (AV.iface 206 (AV.agg [(AV.int .i64 (Ev.i e)),(AV.int .i64 (T.k (Ev.t e))),(AV.int .i64 (T.n (Ev.t e))),(AV.str (T.s (Ev.t e))),(AV.slice 4 (tcellL (T.l (Ev.t e))) Cap.any)])) σ)
 (bcase (((Ev.k e):Int) == 2)
 (bcase (((Ev.n e):Int) == 0)
 (bcase (((Ev.k e):Int) == 3)
 (bcase (((Ev.k e):Int) == 4)
 (bcase (((Ev.i e):Int) == 0)
 (bcase (((Ev.n e):Int) == 0)
 (Q AV.niliface σ)
 (Q AV.niliface σ))
 (Q AV.niliface σ))
 (Q AV.niliface σ))
 (bcase (((Ev.k e):Int) == 4)
 (bcase (((Ev.i e):Int) == 0)
 (bcase (((Ev.n e):Int) == 0)
 (Q AV.niliface σ)
 (Q AV.niliface σ))
 (Q AV.niliface σ))
 (Q AV.niliface σ)))
 (bcase (((Ev.k e):Int) == 3)
 (bcase (((Ev.k e):Int) == 4)
 (bcase (((Ev.i e):Int) == 0)
 (bcase (((Ev.n e):Int) == 0)
 (Q AV.niliface σ)
 (Q AV.niliface σ))
 (Q AV.niliface σ))
 (Q AV.niliface σ))
 (bcase (((Ev.k e):Int) == 4)
 (bcase (((Ev.i e):Int) == 0)
 (bcase (((Ev.n e):Int) == 0)
 (Q AV.niliface σ)
 (Q AV.niliface σ))
 (Q AV.niliface σ))
 (Q AV.niliface σ))))
 (bcase (((Ev.k e):Int) == 3)
 (bcase (((Ev.k e):Int) == 4)
 (bcase (((Ev.i e):Int) == 0)
 (bcase (((Ev.n e):Int) == 0)
 (Q AV.niliface σ)
 (Q AV.niliface σ))
 (Q AV.niliface σ))
 (Q AV.niliface σ))
 (bcase (((Ev.k e):Int) == 4)
 (bcase (((Ev.i e):Int) == 0)
 (bcase (((Ev.n e):Int) == 0)
 (Q AV.niliface σ)
 (Q AV.niliface σ))
 (Q AV.niliface σ))
 (Q AV.niliface σ)))))
 (bcase (((Ev.k e):Int) == 2)
 (bcase (((Ev.n e):Int) == 0)
 (bcase (((Ev.k e):Int) == 3)
 (bcase (((Ev.k e):Int) == 4)
 (bcase (((Ev.i e):Int) == 0)
 (bcase (((Ev.n e):Int) == 0)
 (Q AV.niliface σ)
 (Q AV.niliface σ))
 (Q AV.niliface σ))
 (Q AV.niliface σ))
 (bcase (((Ev.k e):Int) == 4)
 (bcase (((Ev.i e):Int) == 0)
 (bcase (((Ev.n e):Int) == 0)
 (Q AV.niliface σ)
 (Q AV.niliface σ))
 (Q AV.niliface σ))
 (Q AV.niliface σ)))
 (bcase (((Ev.k e):Int) == 3)
 (bcase (((Ev.k e):Int) == 4)
 (bcase (((Ev.i e):Int) == 0)
 (bcase (((Ev.n e):Int) == 0)
 (Q AV.niliface σ)
 (Q AV.niliface σ))
 (Q AV.niliface σ))
 (Q AV.niliface σ))
 (bcase (((Ev.k e):Int) == 4)
 (bcase (((Ev.i e):Int) == 0)
 (bcase (((Ev.n e):Int) == 0)
 (Q AV.niliface σ)
 (Q AV.niliface σ))
 (Q AV.niliface σ))
 (Q AV.niliface σ))))
 (bcase (((Ev.k e):Int) == 3)
 (bcase (((Ev.k e):Int) == 4)
 (bcase (((Ev.i e):Int) == 0)
 (bcase (((Ev.n e):Int) == 0)
 (Q AV.niliface σ)
 (Q AV.niliface σ))
 (Q AV.niliface σ))
 (Q AV.niliface σ))
 (bcase (((Ev.k e):Int) == 4)
 (bcase (((Ev.i e):Int) == 0)
 (bcase (((Ev.n e):Int) == 0)
 (Q AV.niliface σ)
 (Q AV.niliface σ))
 (Q AV.niliface σ))
 (Q AV.niliface σ))))))
 (bcase (((Ev.k e):Int) == 1)
 (bcase (((Ev.n e):Int) == 0)
 (Q (AV.iface 206 (AV.agg [(AV.int .i64 (Ev.i e)),(AV.int .i64 (T.k (Ev.t e))),(AV.int .i64 (T.n (Ev.t e))),(AV.str (T.s (Ev.t e))),(AV.slice 4 (tcellL (T.l (Ev.t e))) Cap.any)])) σ)
 (bcase (((Ev.k e):Int) == 2)
 (bcase (((Ev.n e):Int) == 0)
 (bcase (((Ev.k e):Int) == 3)
 (bcase (((Ev.k e):Int) == 4)
 (bcase (((Ev.i e):Int) == 0)
 (bcase (((Ev.n e):Int) == 0)
 (Q AV.niliface σ)
 (Q AV.niliface σ))
 (Q AV.niliface σ))
 (Q AV.niliface σ))
 (bcase (((Ev.k e):Int) == 4)
 (bcase (((Ev.i e):Int) == 0)
 (bcase (((Ev.n e):Int) == 0)
 (Q AV.niliface σ)
 (Q AV.niliface σ))
 (Q AV.niliface σ))
 (Q AV.niliface σ)))
 (bcase (((Ev.k e):Int) == 3)
 (bcase (((Ev.k e):Int) == 4)
 (bcase (((Ev.i e):Int) == 0)
 (bcase (((Ev.n e):Int) == 0)
 (Q AV.niliface σ)
 (Q AV.niliface σ))
 (Q AV.niliface σ))
 (Q AV.niliface σ))
 (bcase (((Ev.k e):Int) == 4)
 (bcase (((Ev.i e):Int) == 0)
 (bcase (((Ev.n e):Int) == 0)
 (Q AV.niliface σ)
 (Q AV.niliface σ))
 (Q AV.niliface σ))
 (Q AV.niliface σ))))
 (bcase (((Ev.k e):Int) == 3)
 (bcase (((Ev.k e):Int) == 4)
 (bcase (((Ev.i e):Int) == 0)
 (bcase (((Ev.n e):Int) == 0)
 (Q AV.niliface σ)
 (Q AV.niliface σ))
 (Q AV.niliface σ))
 (Q AV.niliface σ))
 (bcase (((Ev.k e):Int) == 4)
 (bcase (((Ev.i e):Int) == 0)
 (bcase (((Ev.n e):Int) == 0)
 (Q AV.niliface σ)
 (Q AV.niliface σ))
 (Q AV.niliface σ))
 (Q AV.niliface σ)))))
 (bcase (((Ev.k e):Int) == 2)
 (bcase (((Ev.n e):Int) == 0)
 (bcase (((Ev.k e):Int) == 3)
 (bcase (((Ev.k e):Int) == 4)
 (bcase (((Ev.i e):Int) == 0)
 (bcase (((Ev.n e):Int) == 0)
 (Q AV.niliface σ)
 (Q AV.niliface σ))
 (Q AV.niliface σ))
 (Q AV.niliface σ))
 (bcase (((Ev.k e):Int) == 4)
 (bcase (((Ev.i e):Int) == 0)
 (bcase (((Ev.n e):Int) == 0)
 (Q AV.niliface σ)
 (Q AV.niliface σ))
 (Q AV.niliface σ))
 (Q AV.niliface σ)))
 (bcase (((Ev.k e):Int) == 3)
 (bcase (((Ev.k e):Int) == 4)
 (bcase (((Ev.i e):Int) == 0)
 (bcase (((Ev.n e):Int) == 0)
 (Q AV.niliface σ)
 (Q AV.niliface σ))
 (Q AV.niliface σ))
 (Q AV.niliface σ))
 (bcase (((Ev.k e):Int) == 4)
 (bcase (((Ev.i e):Int) == 0)
 (bcase (((Ev.n e):Int) == 0)
 (Q AV.niliface σ)
 (Q AV.niliface σ))
 (Q AV.niliface σ))
 (Q AV.niliface σ))))
 (bcase (((Ev.k e):Int) == 3)
 (bcase (((Ev.k e):Int) == 4)
 (bcase (((Ev.i e):Int) == 0)
 (bcase (((Ev.n e):Int) == 0)
 (Q AV.niliface σ)
 (Q AV.niliface σ))
 (Q AV.niliface σ))
 (Q AV.niliface σ))
 (bcase (((Ev.k e):Int) == 4)
 (bcase (((Ev.i e):Int) == 0)
 (bcase (((Ev.n e):Int) == 0)
 (Q AV.niliface σ)
 (Q AV.niliface σ))
 (Q AV.niliface σ))
 (Q AV.niliface σ))))))
 (bcase (((Ev.k e):Int) == 1)
 (bcase (((Ev.n e):Int) == 0)
 (Q (AV.iface 206 (AV.agg [(AV.int .i64 (Ev.i e)),(AV.int .i64 (T.k (Ev.t e))),(AV.int .i64 (T.n (Ev.t e))),(AV.str (T.s (Ev.t e))),(AV.slice 4 (tcellL (T.l (Ev.t e))) Cap.any)])) σ)
 (bcase (((Ev.k e):Int) == 2)
 (bcase (((Ev.n e):Int) == 0)
 (bcase (((Ev.k e):Int) == 3)
 (bcase (((Ev.k e):Int) == 4)
 (bcase (((Ev.i e):Int) == 0)
 (bcase (((Ev.n e):Int) == 0)
 (Q AV.niliface σ)
 (Q AV.niliface σ))
 (Q AV.niliface σ))
 (Q AV.niliface σ))
 (bcase (((Ev.k e):Int) == 4)
 (bcase (((Ev.i e):Int) == 0)
 (bcase (((Ev.n e):Int) == 0)
 (Q AV.niliface σ)
 (Q AV.niliface σ))
 (Q AV.niliface σ))
 (Q AV.niliface σ)))
 (bcase (((Ev.k e):Int) == 3)
 (bcase (((Ev.k e):Int) == 4)
 (bcase (((Ev.i e):Int) == 0)
 (bcase (((Ev.n e):Int) == 0)
 (Q AV.niliface σ)
 (Q AV.niliface σ))
 (Q AV.niliface σ))
 (Q AV.niliface σ))
 (bcase (((Ev.k e):Int) == 4)
 (bcase (((Ev.i e):Int) == 0)
 (bcase (((Ev.n e):Int) == 0)
 (Q AV.niliface σ)
 (Q AV.niliface σ))
 (Q AV.niliface σ))
 (Q AV.niliface σ))))
 (bcase (((Ev.k e):Int) == 3)
 (bcase (((Ev.k e):Int) == 4)
 (bcase (((Ev.i e):Int) == 0)
 (bcase (((Ev.n e):Int) == 0)
 (Q AV.niliface σ)
 (Q AV.niliface σ))
 (Q AV.niliface σ))
 (Q AV.niliface σ))
 (bcase (((Ev.k e):Int) == 4)
 (bcase (((Ev.i e):Int) == 0)
 (bcase (((Ev.n e):Int) == 0)
 (Q AV.niliface σ)
 (Q AV.niliface σ))
 (Q AV.niliface σ))
 (Q AV.niliface σ)))))
 (bcase (((Ev.k e):Int) == 2)
 (bcase (((Ev.n e):Int) == 0)
 (bcase (((Ev.k e):Int) == 3)
 (bcase (((Ev.k e):Int) == 4)
 (bcase (((Ev.i e):Int) == 0)
 (bcase (((Ev.n e):Int) == 0)
 (Q AV.niliface σ)
 (Q AV.niliface σ))
 (Q AV.niliface σ))
 (Q AV.niliface σ))
 (bcase (((Ev.k e):Int) == 4)
 (bcase (((Ev.i e):Int) == 0)
 (bcase (((Ev.n e):Int) == 0)
 (Q AV.niliface σ)
 (Q AV.niliface σ))
 (Q AV.niliface σ))
 (Q AV.niliface σ)))
 (bcase (((Ev.k e):Int) == 3)
 (bcase (((Ev.k e):Int) == 4)
 (bcase (((Ev.i e):Int) == 0)
 (bcase (((Ev.n e):Int) == 0)
 (Q AV.niliface σ)
 (Q AV.niliface σ))
 (Q AV.niliface σ))
 (Q AV.niliface σ))
 (bcase (((Ev.k e):Int) == 4)
 (bcase (((Ev.i e):Int) == 0)
 (bcase (((Ev.n e):Int) == 0)
 (Q AV.niliface σ)
 (Q AV.niliface σ))
 (Q AV.niliface σ))
 (Q AV.niliface σ))))
 (bcase (((Ev.k e):Int) == 3)
 (bcase (((Ev.k e):Int) == 4)
 (bcase (((Ev.i e):Int) == 0)
 (bcase (((Ev.n e):Int) == 0)
 (Q AV.niliface σ)
 (Q AV.niliface σ))
 (Q AV.niliface σ))
 (Q AV.niliface σ))
 (bcase (((Ev.k e):Int) == 4)
 (bcase (((Ev.i e):Int) == 0)
 (bcase (((Ev.n e):Int) == 0)
 (Q AV.niliface σ)
 (Q AV.niliface σ))
 (Q AV.niliface σ))
 (Q AV.niliface σ))))))):=by kernel_rfl
/- happen -/
def ItAt (c:MH) (p:Nat) (acc:List (Nat × T)):Prop:=∃ (iv:AV) (g:Bool),c (.x 0) = some (p,.cells [iv] 97 1 g) /\ SlAt c (.x 1) 88 5 iv (flat (itemsV acc))
def C259:Contract:=fun args σ K => ∃ (c:MH) (M:Nat) (m:RM) (i:Int) (t:T),args = [.agg [.int .i64 i,.int .i64 t.k,.int .i64 t.n,.str t.s,.slice 4 (tcellL t.l) .any],.ptr M 0] /\ (At c σ /\ MRep c M m /\ XT c) /\
 ∀ (c':MH) (σ':State),(At c' σ' /\ MRep c' M (m.put i t).1 /\ Frame' c c') -> K (.int .i64 (m.put i t).2) σ'
def C260:Contract:=fun args σ K => ∃ (c:MH) (M:Nat) (m:RM) (i:Int),args = [.agg [.int .i64 i],.ptr M 0] /\ (At c σ /\ MRep c M m) /\
 ∀ (c':MH) (σ':State),(At c' σ' /\ MRep c' M (m.close i).1 /\ Frame' c c') -> K (.int .i64 (m.close i).2) σ'
def C261:Contract:=fun args σ K => ∃ (c:MH) (M:Nat) (m:RM) (i n:Int),args = [.agg [.int .i64 i,.int .i64 n],.ptr M 0] /\ (At c σ /\ MRep c M m) /\
 ∀ (c':MH) (σ':State),(At c' σ' /\ MRep c' M (m.split i n).1 /\ Frame' c c') -> K (.int .i64 (m.split i n).2.2) σ'
def C262:Contract:=fun args σ K => ∃ (c:MH) (M:Nat) (m:RM) (p:Nat) (acc:List (Nat × T)),args = [.agg [.ptr p 0],.ptr M 0] /\ (At c σ /\ MRep c M m /\ ItAt c p acc /\ acc.length <= 1000000 /\ XT c) /\
 ∀ (c':MH) (σ':State),(At c' σ' /\ MRep c' M m.next.1 /\ ItAt c' p (acc ++ m.next.2.toList) /\ XT c') -> K (.int .i64 0) σ'
def H259 (E:Env):Hand:=hnd E annA noHints [(43,C43r),(56,C56r),(42,C42r),(44,C44s)]
theorem vc259 (B:Nat) (w0:World) (G:Nat -> AV) (σ:State) (M:Nat) (i:Int) (t:T) (Q:AV -> State -> Prop):(bodyC (EV B w0 G) (H259 (EV B w0 G)) (fun _ _ _ _ => False) annA noHint 259 [.agg [.int .i64 i,.int .i64 t.k,.int .i64 t.n,.str t.s,.slice 4 (tcellL t.l) .any],.ptr M 0] σ Q) =
 ((∃ c0:MH,(∃ M1:Nat,(∃ m2:RM,(∃ i3:Int,(∃ t4:T,(([(AV.ptr (M) 0),(AV.int .i64 (i)),(AV.agg [(AV.int .i64 (T.k t)),(AV.int .i64 (T.n t)),(AV.str (T.s t)),(AV.slice 4 (tcellL (T.l t)) Cap.any)])] = [(AV.ptr (M1) 0),(AV.int .i64 (i3)),(AV.agg [(AV.int .i64 (T.k t4)),(AV.int .i64 (T.n t4)),(AV.str (T.s t4)),(AV.slice 4 (tcellL (T.l t4)) Cap.any)])])/\
 (((At c0 σ)/\
 ((MRep c0 M1 m2)/\
 (XT c0)))/\
 (∀ c'5:MH,(∀ σ'6:State,(((At c'5 σ'6)/\
 ((MRep c'5 M1 (Prod.fst (RM.put m2 i3 t4)))/\
 (Frame' c0 c'5))) -> (Q (AV.int .i64 (Prod.snd (RM.put m2 i3 t4))) σ'6)))))))))))):=by kernel_rfl
theorem vc260 (B:Nat) (w0:World) (G:Nat -> AV) (σ:State) (M:Nat) (i:Int) (Q:AV -> State -> Prop):(bodyC (EV B w0 G) (H259 (EV B w0 G)) (fun _ _ _ _ => False) annA noHint 260 [.agg [.int .i64 i],.ptr M 0] σ Q) =
 ((∃ c0:MH,(∃ M1:Nat,(∃ m2:RM,(∃ i3:Int,(([(AV.ptr (M) 0),(AV.int .i64 (i))] = [(AV.ptr (M1) 0),(AV.int .i64 (i3))])/\
 (((At c0 σ)/\
 (MRep c0 M1 m2))/\
 (∀ c'4:MH,(∀ σ'5:State,(((At c'4 σ'5)/\
 ((MRep c'4 M1 (Prod.fst (RM.close m2 i3)))/\
 (Frame' c0 c'4))) -> (Q (AV.int .i64 (Prod.snd (RM.close m2 i3))) σ'5))))))))))):=by kernel_rfl
theorem vc261 (B:Nat) (w0:World) (G:Nat -> AV) (σ:State) (M:Nat) (i n:Int) (Q:AV -> State -> Prop):(bodyC (EV B w0 G) (H259 (EV B w0 G)) (fun _ _ _ _ => False) annA noHint 261 [.agg [.int .i64 i,.int .i64 n],.ptr M 0] σ Q) =
 ((∃ c0:MH,(∃ M1:Nat,(∃ m2:RM,(∃ i3:Int,(∃ n4:Int,(([(AV.ptr (M) 0),(AV.int .i64 (i)),(AV.int .i64 (n))] = [(AV.ptr (M1) 0),(AV.int .i64 (i3)),(AV.int .i64 (n4))])/\
 (((At c0 σ)/\
 (MRep c0 M1 m2))/\
 (∀ c'5:MH,(∀ σ'6:State,(((At c'5 σ'6)/\
 ((MRep c'5 M1 (Prod.fst (RM.split m2 i3 n4)))/\
 (Frame' c0 c'5))) -> (Q (AV.int .i64 (Prod.snd (Prod.snd (RM.split m2 i3 n4)))) σ'6)))))))))))):=by kernel_rfl
def hItN:Hint:=Hint.ofNil (fun x:OE => AObj.cells x.cs 97 1 x.g) (fun x:RS => AV.rslice x.id 0 x.n)
def N262:FnHint:=hAt [(3,5,hItN),(3,8,hEl 88 5),(3,10,hEl 97 1)]
theorem vc262 (B:Nat) (w0:World) (G:Nat -> AV) (σ:State) (M p:Nat) (Q:AV -> State -> Prop):(bodyC (EV B w0 G) (H259 (EV B w0 G)) (fun _ _ _ _ => False) annA N262 262 [.agg [.ptr p 0],.ptr M 0] σ Q) =
 ((∃ c0:MH,(∃ M1:Nat,(∃ m2:RM,(([(AV.ptr (M) 0)] = [(AV.ptr (M1) 0)])/\
 (((At c0 σ)/\
 (MRep c0 M1 m2))/\
 ((((Prod.snd (RM.next m2)) = Option.none) -> (∀ c'3:MH,(∀ σ'4:State,(((At c'3 σ'4)/\
 ((MRep c'3 M1 m2)/\
 (Frame' c0 c'3))) -> (Q (AV.int .i64 0) σ'4)))))/\
 (∀ x3:Nat × T,(((Prod.snd (RM.next m2)) = (Option.some (x3))) -> (∀ c'4:MH,(∀ σ'5:State,(((At c'4 σ'5)/\
 ((MRep c'4 M1 (Prod.fst (RM.next m2)))/\
 (Frame' c0 c'4))) -> (∃ a6:OE,(((State.objs σ'5 (p)) = (AObj.cells (OE.cs a6) 97 1 (OE.g a6)))/\
 (((0:Nat) < (List.length (OE.cs a6)))/\
 ((((List.getD (OE.cs a6) 0 AV.undef) = AV.nilslice)/\
 ((((64:Nat) <= 140737488355328)/\
 ((1:Nat) <= 4611686018427387904))/\
 ((Rf (TV.l 2 0))/\
 ((Rf (TV.v (AV.ptr (p) 0)))/\
 (∃ a7:OE,(((State.objs (State.new σ'5 (AObj.cells [(AV.int .i64 ((Prod.fst x3:Nat):Int)),(AV.int .i64 (T.k (Prod.snd x3))),(AV.int .i64 (T.n (Prod.snd x3))),(AV.str (T.s (Prod.snd x3))),(AV.slice 4 (tcellL (T.l (Prod.snd x3))) Cap.any)] 88 5 true)) (p)) = (AObj.cells (OE.cs a7) 97 1 (OE.g a7)))/\
 (((1:Nat) <= (List.length (OE.cs a7)))/\
 (Q (AV.int .i64 0) (State.set (State.new σ'5 (AObj.cells [(AV.int .i64 ((Prod.fst x3:Nat):Int)),(AV.int .i64 (T.k (Prod.snd x3))),(AV.int .i64 (T.n (Prod.snd x3))),(AV.str (T.s (Prod.snd x3))),(AV.slice 4 (tcellL (T.l (Prod.snd x3))) Cap.any)] 88 5 true)) (p) (AObj.cells (asplice (OE.cs a7) 0 [(AV.rslice (State.next σ'5) 0 1)]) 97 1 (OE.g a7))))))))))) \/ (∃ x7:RS,(((List.getD (OE.cs a6) 0 AV.undef) = (AV.rslice (RS.id x7) 0 (RS.n x7)))/\
 (∃ a8:OE,(((State.objs σ'5 (RS.id x7)) = (AObj.cells (OE.cs a8) 88 5 (OE.g a8)))/\
 ((((0:Nat) = 0)/\
 (((((((RS.n x7) + 1) * 64):Nat) <= 140737488355328)/\
 ((((RS.n x7) + 1):Nat) <= 4611686018427387904))/\
 ((((RS.n x7) * 5):Nat) <= (List.length (OE.cs a8)))))/\
 ((Rf (TV.l 2 0))/\
 ((Rf (TV.v (AV.ptr (p) 0)))/\
 (∃ a9:OE,(((State.objs (State.new (State.set σ'5 (RS.id x7) AObj.dead) (AObj.cells ((List.take ((RS.n x7) * 5) (OE.cs a8)) ++ [(AV.int .i64 ((Prod.fst x3:Nat):Int)),(AV.int .i64 (T.k (Prod.snd x3))),(AV.int .i64 (T.n (Prod.snd x3))),(AV.str (T.s (Prod.snd x3))),(AV.slice 4 (tcellL (T.l (Prod.snd x3))) Cap.any)]) 88 5 true)) (p)) = (AObj.cells (OE.cs a9) 97 1 (OE.g a9)))/\
 (((1:Nat) <= (List.length (OE.cs a9)))/\
 (Q (AV.int .i64 0) (State.set (State.new (State.set σ'5 (RS.id x7) AObj.dead) (AObj.cells ((List.take ((RS.n x7) * 5) (OE.cs a8)) ++ [(AV.int .i64 ((Prod.fst x3:Nat):Int)),(AV.int .i64 (T.k (Prod.snd x3))),(AV.int .i64 (T.n (Prod.snd x3))),(AV.str (T.s (Prod.snd x3))),(AV.slice 4 (tcellL (T.l (Prod.snd x3))) Cap.any)]) 88 5 true)) (p) (AObj.cells (asplice (OE.cs a9) 0 [(AV.rslice (State.next σ'5) 0 ((RS.n x7) + 1))]) 97 1 (OE.g a9)))))))))))))))))))))))))))))):=by kernel_rfl
/- what a run comes to -/
def mrun:RM -> List (Nat × T) -> List Ev -> List (Nat × T) × Bool × Int
 | m,acc,[] => (acc,m.done,0)
 | m,acc,e :: l => if (m.doR e).2.2 ≠ 0 then ([],false,(m.doR e).2.2) else mrun (m.doR e).1 (acc ++ (m.doR e).2.1) l
def mergeS (n:Int) (l:List Ev):List (Nat × T) × Bool × Int:=if n < 0 \/ 64 < n then ([],false,1) else if 40000 < l.length then ([],false,2) else mrun (RM.new n.toNat) [] l

/- Merge of the program -/
structure Y57 where
 σ:State
 c:MH
 M:Nat
 m:RM
 p:Nat
 acc:List (Nat × T)
 i:Nat
def H57l (E:Env):Hand:=hnd E annA noHints [(102,C102),(259,C259),(260,C260),(261,C261),(262,C262)]
def ls57 (l:List Ev) (I:Y57 -> Prop):LS Y57 where
 F y:=[(7,.v (.ptr y.M 0)),(9,.v (.ptr y.p 0)),(25,.v (.slice 7 (evL l) .any)),(26,.v (.int .i64 ((evL l).length:Int))),(27,.v (.int .i64 (y.i:Int)))]
 FL _:=[]
 S y:=y.σ
 I:=I
 μ y:=l.length - y.i
 Ex y e a σ:=match e with
  | .exit 0 => ¬ (y.i < l.length) /\ atF a [(7,.v (.ptr y.M 0)),(9,.v (.ptr y.p 0))] [] (y.σ.Le σ)
  | .ret => ∃ (err:Int) (σ1:State),mrun y.m y.acc (l.drop y.i) = ([],false,err) /\ atF a [(4,.v .nilslice),(5,.v (.bool false)),(6,.v (.int .i64 err))] [] (σ1.Le σ)
  | _ => False
def N57l:FnHint:=hAt [(9,0,hEv)]
theorem fnParts_57:fnParts Tryz.prog [] 57 = [.loop (bodyOf (fnPart Tryz.prog [] 57 0))]:=by kernel_rfl
theorem vc57l (B:Nat) (w0:World) (G:Nat -> AV) (l:List Ev) (I:Y57 -> Prop) (y:Y57):(wpX [] (EV B w0 G) (H57l (EV B w0 G)) (fun _ _ _ _ => False) (annA 57) N57l (bodyOf (fnPart Tryz.prog [] 57 0)) ((ls57 l I).post y) (frm [(7,.v (.ptr y.M 0)),(9,.v (.ptr y.p 0)),(25,.v (.slice 7 (evL l) .any)),(26,.v (.int .i64 ((evL l).length:Int))),(27,.v (.int .i64 (y.i:Int)))] []) y.σ) =
 ((bcase (decide ((((Y57.i y:Nat):Int):Int) < (((List.length (evL l)):Nat):Int)))
 ((((0:Int) <= ((Y57.i y:Nat):Int))/\
 ((((Y57.i y:Nat):Int):Int) < (((List.length (evL l)):Nat):Int)))/\
 (∃ x0:Ev,(((AV.vptr (AV.cells (List.getD (evL l) (Int.toNat (↑(Y57.i y):Int)) AV.undef))) = (AV.vptr [(AV.int .i64 (Ev.k x0)),(AV.int .i64 (Ev.i x0)),(AV.int .i64 (Ev.n x0)),(AV.int .i64 (T.k (Ev.t x0))),(AV.int .i64 (T.n (Ev.t x0))),(AV.str (T.s (Ev.t x0))),(AV.slice 4 (tcellL (T.l (Ev.t x0))) Cap.any)]))/\
 (∃ e1:Ev,(∃ p2:Nat,(([(AV.agg [(AV.int .i64 (Ev.k x0)),(AV.int .i64 (Ev.i x0)),(AV.int .i64 (Ev.n x0)),(AV.int .i64 (T.k (Ev.t x0))),(AV.int .i64 (T.n (Ev.t x0))),(AV.str (T.s (Ev.t x0))),(AV.slice 4 (tcellL (T.l (Ev.t x0))) Cap.any)]),(AV.ptr (Y57.p y) 0)] = [(AV.agg [(AV.int .i64 (Ev.k e1)),(AV.int .i64 (Ev.i e1)),(AV.int .i64 (Ev.n e1)),(AV.int .i64 (T.k (Ev.t e1))),(AV.int .i64 (T.n (Ev.t e1))),(AV.str (T.s (Ev.t e1))),(AV.slice 4 (tcellL (T.l (Ev.t e1))) Cap.any)]),(AV.ptr (p2) 0)])/\
 ((((isEv e1) = false) -> (∃ err3:Int,(∃ σ14:State,(((mrun (Y57.m y) (Y57.acc y) (List.drop (Y57.i y) l)) = (Prod.mk [] (Prod.mk false (err3))))/\
 ((Rf (TV.v AV.nilslice))/\
 ((Rf (TV.v (AV.bool false)))/\
 (((TV.v (AV.int .i64 1)) = (TV.v (AV.int .i64 (err3))))/\
 (State.Le σ14 (y.1)))))))))/\
 ((((isEv e1) = true) -> ((((Ev.k e1):Int) = 1) -> (∃ c3:MH,(∃ M4:Nat,(∃ m5:RM,(∃ i6:Int,(∃ t7:T,(([(AV.agg [(AV.int .i64 (Ev.i e1)),(AV.int .i64 (T.k (Ev.t e1))),(AV.int .i64 (T.n (Ev.t e1))),(AV.str (T.s (Ev.t e1))),(AV.slice 4 (tcellL (T.l (Ev.t e1))) Cap.any)]),(AV.ptr (Y57.M y) 0)] = [(AV.agg [(AV.int .i64 (i6)),(AV.int .i64 (T.k t7)),(AV.int .i64 (T.n t7)),(AV.str (T.s t7)),(AV.slice 4 (tcellL (T.l t7)) Cap.any)]),(AV.ptr (M4) 0)])/\
 (((At c3 (y.1))/\
 ((MRep c3 M4 m5)/\
 (XT c3)))/\
 (∀ c'8:MH,(∀ σ'9:State,(((At c'8 σ'9)/\
 ((MRep c'8 M4 (Prod.fst (RM.put m5 i6 t7)))/\
 (Frame' c3 c'8))) -> (bcase (((Prod.snd (RM.put m5 i6 t7)):Int) != 0)
 (∃ err10:Int,(∃ σ111:State,(((mrun (Y57.m y) (Y57.acc y) (List.drop (Y57.i y) l)) = (Prod.mk [] (Prod.mk false (err10))))/\
 ((Rf (TV.v AV.nilslice))/\
 ((Rf (TV.v (AV.bool false)))/\
 (((TV.v (AV.int .i64 (Prod.snd (RM.put m5 i6 t7)))) = (TV.v (AV.int .i64 (err10))))/\
 (State.Le σ111 σ'9)))))))
 (∃ x'10:Y57,(((I (x'10))/\
 (((LS.μ (ls57 l I) x'10):Nat) < (LS.μ (ls57 l I) y)))/\
 (((TV.v (AV.ptr (Y57.M y) 0)) = (TV.v (AV.ptr (Y57.M x'10) 0)))/\
 (((TV.v (AV.ptr (Y57.p y) 0)) = (TV.v (AV.ptr (Y57.p x'10) 0)))/\
 ((Rf (TV.v (AV.slice 7 (evL l) Cap.any)))/\
 ((Rf (TV.v (AV.int .i64 (((List.length (evL l)):Nat):Int))))/\
 (((TV.v (AV.int .i64 (IntKind.wrap .i64 (((Y57.i y:Nat):Int) + 1)))) = (TV.v (AV.int .i64 ((Y57.i x'10:Nat):Int))))/\
 (State.Le ((ls57 l I).3 x'10) σ'9)))))))))))))))))))))/\
 ((((isEv e1) = true) -> ((((Ev.k e1):Int) = 2) -> (∃ c3:MH,(∃ M4:Nat,(∃ m5:RM,(∃ i6:Int,(([(AV.agg [(AV.int .i64 (Ev.i e1))]),(AV.ptr (Y57.M y) 0)] = [(AV.agg [(AV.int .i64 (i6))]),(AV.ptr (M4) 0)])/\
 (((At c3 (y.1))/\
 (MRep c3 M4 m5))/\
 (∀ c'7:MH,(∀ σ'8:State,(((At c'7 σ'8)/\
 ((MRep c'7 M4 (Prod.fst (RM.close m5 i6)))/\
 (Frame' c3 c'7))) -> (bcase (((Prod.snd (RM.close m5 i6)):Int) != 0)
 (∃ err9:Int,(∃ σ110:State,(((mrun (Y57.m y) (Y57.acc y) (List.drop (Y57.i y) l)) = (Prod.mk [] (Prod.mk false (err9))))/\
 ((Rf (TV.v AV.nilslice))/\
 ((Rf (TV.v (AV.bool false)))/\
 (((TV.v (AV.int .i64 (Prod.snd (RM.close m5 i6)))) = (TV.v (AV.int .i64 (err9))))/\
 (State.Le σ110 σ'8)))))))
 (∃ x'9:Y57,(((I (x'9))/\
 (((LS.μ (ls57 l I) x'9):Nat) < (LS.μ (ls57 l I) y)))/\
 (((TV.v (AV.ptr (Y57.M y) 0)) = (TV.v (AV.ptr (Y57.M x'9) 0)))/\
 (((TV.v (AV.ptr (Y57.p y) 0)) = (TV.v (AV.ptr (Y57.p x'9) 0)))/\
 ((Rf (TV.v (AV.slice 7 (evL l) Cap.any)))/\
 ((Rf (TV.v (AV.int .i64 (((List.length (evL l)):Nat):Int))))/\
 (((TV.v (AV.int .i64 (IntKind.wrap .i64 (((Y57.i y:Nat):Int) + 1)))) = (TV.v (AV.int .i64 ((Y57.i x'9:Nat):Int))))/\
 (State.Le ((ls57 l I).3 x'9) σ'8))))))))))))))))))))/\
 ((((isEv e1) = true) -> ((((Ev.k e1):Int) = 3) -> (∃ c3:MH,(∃ M4:Nat,(∃ m5:RM,(∃ i6:Int,(∃ n7:Int,(([(AV.agg [(AV.int .i64 (Ev.i e1)),(AV.int .i64 (Ev.n e1))]),(AV.ptr (Y57.M y) 0)] = [(AV.agg [(AV.int .i64 (i6)),(AV.int .i64 (n7))]),(AV.ptr (M4) 0)])/\
 (((At c3 (y.1))/\
 (MRep c3 M4 m5))/\
 (∀ c'8:MH,(∀ σ'9:State,(((At c'8 σ'9)/\
 ((MRep c'8 M4 (Prod.fst (RM.split m5 i6 n7)))/\
 (Frame' c3 c'8))) -> (bcase (((Prod.snd (Prod.snd (RM.split m5 i6 n7))):Int) != 0)
 (∃ err10:Int,(∃ σ111:State,(((mrun (Y57.m y) (Y57.acc y) (List.drop (Y57.i y) l)) = (Prod.mk [] (Prod.mk false (err10))))/\
 ((Rf (TV.v AV.nilslice))/\
 ((Rf (TV.v (AV.bool false)))/\
 (((TV.v (AV.int .i64 (Prod.snd (Prod.snd (RM.split m5 i6 n7))))) = (TV.v (AV.int .i64 (err10))))/\
 (State.Le σ111 σ'9)))))))
 (∃ x'10:Y57,(((I (x'10))/\
 (((LS.μ (ls57 l I) x'10):Nat) < (LS.μ (ls57 l I) y)))/\
 (((TV.v (AV.ptr (Y57.M y) 0)) = (TV.v (AV.ptr (Y57.M x'10) 0)))/\
 (((TV.v (AV.ptr (Y57.p y) 0)) = (TV.v (AV.ptr (Y57.p x'10) 0)))/\
 ((Rf (TV.v (AV.slice 7 (evL l) Cap.any)))/\
 ((Rf (TV.v (AV.int .i64 (((List.length (evL l)):Nat):Int))))/\
 (((TV.v (AV.int .i64 (IntKind.wrap .i64 (((Y57.i y:Nat):Int) + 1)))) = (TV.v (AV.int .i64 ((Y57.i x'10:Nat):Int))))/\
 (State.Le ((ls57 l I).3 x'10) σ'9)))))))))))))))))))))/\
 (((isEv e1) = true) -> ((((Ev.k e1):Int) = 4) -> (∃ c3:MH,(∃ M4:Nat,(∃ m5:RM,(∃ p6:Nat,(∃ acc7:List (Nat × T),(([(AV.agg [(AV.ptr (p2) 0)]),(AV.ptr (Y57.M y) 0)] = [(AV.agg [(AV.ptr (p6) 0)]),(AV.ptr (M4) 0)])/\
 (((At c3 (y.1))/\
 ((MRep c3 M4 m5)/\
 ((ItAt c3 p6 acc7)/\
 ((((List.length (acc7)):Nat) <= 1000000)/\
 (XT c3)))))/\
 (∀ c'8:MH,(∀ σ'9:State,(((At c'8 σ'9)/\
 ((MRep c'8 M4 (Prod.fst (RM.next m5)))/\
 ((ItAt c'8 p6 (acc7 ++ Option.toList (Prod.snd (RM.next m5))))/\
 (XT c'8)))) -> (∃ x'10:Y57,(((I (x'10))/\
 (((LS.μ (ls57 l I) x'10):Nat) < (LS.μ (ls57 l I) y)))/\
 (((TV.v (AV.ptr (Y57.M y) 0)) = (TV.v (AV.ptr (Y57.M x'10) 0)))/\
 (((TV.v (AV.ptr (Y57.p y) 0)) = (TV.v (AV.ptr (Y57.p x'10) 0)))/\
 ((Rf (TV.v (AV.slice 7 (evL l) Cap.any)))/\
 ((Rf (TV.v (AV.int .i64 (((List.length (evL l)):Nat):Int))))/\
 (((TV.v (AV.int .i64 (IntKind.wrap .i64 (((Y57.i y:Nat):Int) + 1)))) = (TV.v (AV.int .i64 ((Y57.i x'10:Nat):Int))))/\
 (State.Le ((ls57 l I).3 x'10) σ'9))))))))))))))))))))))))))))))
 ((((Y57.i y:Nat) < (List.length (l))) -> False)/\
 ((Rf (TV.v (AV.ptr (Y57.M y) 0)))/\
 ((Rf (TV.v (AV.ptr (Y57.p y) 0)))/\
 (State.Le (y.1) (y.1))))))):=by kernel_rfl
def T57 (l:List Ev) (I R:Y57 -> Prop) (E:Int -> Prop):LHand:=fun _ Q a σ => ∃ y:Y57,I y /\ atF a ((ls57 l I).F y) [] (y.σ.Le σ) /\
 ((∀ y':Y57,R y' -> Q (.exit 0) (frm [(7,.v (.ptr y'.M 0)),(9,.v (.ptr y'.p 0))] []) y'.σ) /\ ∀ (err:Int) (σ1:State),E err -> Q .ret (frm [(4,.v .nilslice),(5,.v (.bool false)),(6,.v (.int .i64 err))] []) σ1)
def H57 (E:Env):Hand:=hnd E annA noHints [(41,C41r),(47,C47r)]
def N57:FnHint:=hAt [(17,0,hItN)]
theorem vc57 (B:Nat) (w0:World) (G:Nat -> AV) (n:Int) (l:List Ev) (I R:Y57 -> Prop) (E:Int -> Prop) (Q:AV -> State -> Prop):(bodyX [] (EV B w0 G) (H57 (EV B w0 G)) (T57 l I R E) annA N57 57 [.int .i64 n,.slice 7 (evL l) .any] noObj Q) =
 ((∃ c0:MH,(∃ n1:Int,(([(AV.int .i64 (n))] = [(AV.int .i64 (n1))])/\
 ((At c0 (noObj))/\
 ((((((n1):Int) < 0) \/ ((64:Int) < (n1))) -> (Q (AV.tuple [AV.nilslice,(AV.bool false),(AV.int .i64 1)]) (noObj)))/\
 ((((0:Int) <= (n1))/\
 (((n1):Int) <= 64)) -> (∀ c'2:MH,(∀ σ'3:State,(∀ M4:Nat,(((At c'2 σ'3)/\
 ((MRep c'2 M4 (RM.new (Int.toNat n1)))/\
 (Frame' c0 c'2))) -> (bcase (decide (((((List.length (evL l)):Nat):Int):Int) > 40000))
 (Q (AV.tuple [AV.nilslice,(AV.bool false),(AV.int .i64 2)]) σ'3)
 (∃ y5:Y57,((I (y5))/\
 ((((TV.v (AV.ptr (M4) 0)) = (TV.v (AV.ptr (Y57.M y5) 0)))/\
 (((TV.v (AV.ptr (State.next σ'3) 0)) = (TV.v (AV.ptr (Y57.p y5) 0)))/\
 ((Rf (TV.v (AV.slice 7 (evL l) Cap.any)))/\
 ((Rf (TV.v (AV.int .i64 (((List.length (evL l)):Nat):Int))))/\
 (((TV.v (AV.int .i64 0)) = (TV.v (AV.int .i64 ((Y57.i y5:Nat):Int))))/\
 (State.Le (y5.1) (State.new σ'3 (AObj.cells [AV.nilslice] 97 1 false))))))))/\
 ((∀ y'6:Y57,((R (y'6)) -> (∃ a7:OE,(((State.objs (y'6.1) (Y57.p y'6)) = (AObj.cells (OE.cs a7) 97 1 (OE.g a7)))/\
 (((0:Nat) < (List.length (OE.cs a7)))/\
 ((((List.getD (OE.cs a7) 0 AV.undef) = AV.nilslice)/\
 (∃ c8:MH,(∃ M9:Nat,(∃ m10:RM,(([(AV.ptr (Y57.M y'6) 0)] = [(AV.ptr (M9) 0)])/\
 (((At c8 (y'6.1))/\
 (MRep c8 M9 m10))/\
 ((∃ a11:OE,(((State.objs (y'6.1) (Y57.p y'6)) = (AObj.cells (OE.cs a11) 97 1 (OE.g a11)))/\
 (((0:Nat) < (List.length (OE.cs a11)))/\
 ((((List.getD (OE.cs a11) 0 AV.undef) = AV.nilslice)/\
 (Rf (TV.v AV.nilslice))) \/ (∃ x12:RS,(((List.getD (OE.cs a11) 0 AV.undef) = (AV.rslice (RS.id x12) 0 (RS.n x12)))/\
 ((TV.v (AV.rslice (RS.id x12) 0 (RS.n x12))) = (TV.v AV.nilslice))))))))/\
 (Q (AV.tuple [AV.nilslice,(AV.bool (RM.done m10)),(AV.int .i64 0)]) (y'6.1))))))))) \/ (∃ x8:RS,(((List.getD (OE.cs a7) 0 AV.undef) = (AV.rslice (RS.id x8) 0 (RS.n x8)))/\
 (∃ c9:MH,(∃ M10:Nat,(∃ m11:RM,(([(AV.ptr (Y57.M y'6) 0)] = [(AV.ptr (M10) 0)])/\
 (((At c9 (y'6.1))/\
 (MRep c9 M10 m11))/\
 ((∃ a12:OE,(((State.objs (y'6.1) (Y57.p y'6)) = (AObj.cells (OE.cs a12) 97 1 (OE.g a12)))/\
 (((0:Nat) < (List.length (OE.cs a12)))/\
 ((((List.getD (OE.cs a12) 0 AV.undef) = AV.nilslice)/\
 ((TV.v AV.nilslice) = (TV.v (AV.rslice (RS.id x8) 0 (RS.n x8))))) \/ (∃ x13:RS,(((List.getD (OE.cs a12) 0 AV.undef) = (AV.rslice (RS.id x13) 0 (RS.n x13)))/\
 ((TV.v (AV.rslice (RS.id x13) 0 (RS.n x13))) = (TV.v (AV.rslice (RS.id x8) 0 (RS.n x8))))))))))/\
 (Q (AV.tuple [(AV.rslice (RS.id x8) 0 (RS.n x8)),(AV.bool (RM.done m11)),(AV.int .i64 0)]) (y'6.1))))))))))))))))/\
 (∀ err6:Int,(∀ σ17:State,((E (err6)) -> (Q (AV.tuple [AV.nilslice,(AV.bool false),(AV.int .i64 (err6))]) σ17)))))))))))))))))))):=by kernel_rfl
def C57:Contract:=fun args σ K => ∃ (n:Int) (l:List Ev),args = [.int .i64 n,.slice 7 (evL l) .any] /\ (∀ e ∈ l,e.t.bulk <= 1099511627776) /\ K (.tuple [.slice 5 (itemsV (mergeS n l).1) .any,.bool (mergeS n l).2.1,.int .i64 (mergeS n l).2.2]) σ.untok
def C58:Contract:=C57

/- Merge of the reference -/
structure Y58 where
 σ:State
 c:MH
 qv:AV
 m:RM
 acc:List (Nat × T)
 i:Nat
 j:Nat
def FL58 (m:RM):List (Nat × List AV):=[(7,[.slice 4 (rL m.I) .any,.slice 1 (intsV m.turn) .any,.int .i64 (m.work:Int),.int .i64 (m.puts:Int)])]
def ls58i (l:List Ev) (x:List (Nat × T)) (m:RM) (i:Nat) (I:Y58 -> Prop):LS Y58 where
 F y:=[(1,.v (.slice 7 (evL l) .any)),(7,.l 7 0),(9,.v y.qv),(10,.v (.int .i64 (i:Int))),(12,.v (.slice 5 (itemsV x) .any)),(14,.v (.int .i64 (y.j:Int)))]
 FL _:=FL58 m
 S y:=y.σ
 I:=I
 μ y:=x.length - y.j
 Ex y e a σ:=match e with
  | .exit 2 => ¬ (y.j < x.length) /\ atF a [(1,.v (.slice 7 (evL l) .any)),(7,.l 7 0),(9,.v y.qv),(10,.v (.int .i64 (i:Int)))] (FL58 m) (y.σ.Le σ)
  | _ => False
def N58i (r:Bool):FnHint:=hAt [(17,3,hItem),(17,6,match r with | true => hEl 88 5 | false => Hint.s)]
theorem fnParts_58:fnParts Tryz.prog [] 58 = [.loop (bodyOf (fnPart Tryz.prog [] 58 0))]:=by kernel_rfl
theorem vc58in (B:Nat) (w0:World) (G:Nat -> AV) (l:List Ev) (x:List (Nat × T)) (m:RM) (i:Nat) (I:Y58 -> Prop) (y:Y58):(wpX [] (EV B w0 G) (H0 (EV B w0 G)) (fun _ _ _ _ => False) (annA 58) (N58i false) (bodyOf (subPart [] (fnPart Tryz.prog [] 58 0) 0)) ((ls58i l x m i I).post y) (frm [(1,.v (.slice 7 (evL l) .any)),(7,.l 7 0),(9,.v (.slice 5 [] .full)),(10,.v (.int .i64 (i:Int))),(12,.v (.slice 5 (itemsV x) .any)),(14,.v (.int .i64 (y.j:Int)))] (FL58 m)) y.σ) =
 ((bcase (decide ((((Y58.j y:Nat):Int):Int) < (((List.length (itemsV x)):Nat):Int)))
 ((((0:Int) <= ((Y58.j y:Nat):Int))/\
 ((((Y58.j y:Nat):Int):Int) < (((List.length (itemsV x)):Nat):Int)))/\
 (∃ x0:Nat × T,(((AV.vptr (AV.cells (List.getD (itemsV x) (Int.toNat (↑(Y58.j y):Int)) AV.undef))) = (AV.vptr [(AV.int .i64 ((Prod.fst x0:Nat):Int)),(AV.int .i64 (T.k (Prod.snd x0))),(AV.int .i64 (T.n (Prod.snd x0))),(AV.str (T.s (Prod.snd x0))),(AV.slice 4 (tcellL (T.l (Prod.snd x0))) Cap.any)]))/\
 ((((64:Nat) <= 140737488355328)/\
 ((1:Nat) <= 4611686018427387904))/\
 (∃ x'1:Y58,(((I (x'1))/\
 (((LS.μ (ls58i l x m i I) x'1):Nat) < (LS.μ (ls58i l x m i I) y)))/\
 ((Rf (TV.v (AV.slice 7 (evL l) Cap.any)))/\
 ((Rf (TV.l 7 0))/\
 (((TV.v (AV.rslice (State.next (y.1)) 0 1)) = (TV.v (Y58.qv x'1)))/\
 ((Rf (TV.v (AV.int .i64 ((i:Nat):Int))))/\
 ((Rf (TV.v (AV.slice 5 (itemsV x) Cap.any)))/\
 (((TV.v (AV.int .i64 (IntKind.wrap .i64 (((Y58.j y:Nat):Int) + 1)))) = (TV.v (AV.int .i64 ((Y58.j x'1:Nat):Int))))/\
 ((Rf [(AV.slice 4 (rL (RM.I m)) Cap.any),(AV.slice 1 (intsV (RM.turn m)) Cap.any),(AV.int .i64 ((RM.work m:Nat):Int)),(AV.int .i64 ((RM.puts m:Nat):Int))])/\
 (State.Le ((ls58i l x m i I).3 x'1) (State.new (y.1) (AObj.cells [(AV.int .i64 ((Prod.fst x0:Nat):Int)),(AV.int .i64 (T.k (Prod.snd x0))),(AV.int .i64 (T.n (Prod.snd x0))),(AV.str (T.s (Prod.snd x0))),(AV.slice 4 (tcellL (T.l (Prod.snd x0))) Cap.any)] 88 5 true))))))))))))))))
 ((((Y58.j y:Nat) < (List.length (x))) -> False)/\
 ((Rf (TV.v (AV.slice 7 (evL l) Cap.any)))/\
 ((Rf (TV.l 7 0))/\
 (((TV.v (AV.slice 5 [] Cap.full)) = (TV.v (Y58.qv y)))/\
 ((Rf (TV.v (AV.int .i64 ((i:Nat):Int))))/\
 ((Rf [(AV.slice 4 (rL (RM.I m)) Cap.any),(AV.slice 1 (intsV (RM.turn m)) Cap.any),(AV.int .i64 ((RM.work m:Nat):Int)),(AV.int .i64 ((RM.puts m:Nat):Int))])/\
 (State.Le (y.1) (y.1)))))))))):=by kernel_rfl
theorem vc58ir (B:Nat) (w0:World) (G:Nat -> AV) (l:List Ev) (x:List (Nat × T)) (m:RM) (i:Nat) (oid on:Nat) (I:Y58 -> Prop) (y:Y58):(wpX [] (EV B w0 G) (H0 (EV B w0 G)) (fun _ _ _ _ => False) (annA 58) (N58i true) (bodyOf (subPart [] (fnPart Tryz.prog [] 58 0) 0)) ((ls58i l x m i I).post y) (frm [(1,.v (.slice 7 (evL l) .any)),(7,.l 7 0),(9,.v (.rslice oid 0 on)),(10,.v (.int .i64 (i:Int))),(12,.v (.slice 5 (itemsV x) .any)),(14,.v (.int .i64 (y.j:Int)))] (FL58 m)) y.σ) =
 ((bcase (decide ((((Y58.j y:Nat):Int):Int) < (((List.length (itemsV x)):Nat):Int)))
 ((((0:Int) <= ((Y58.j y:Nat):Int))/\
 ((((Y58.j y:Nat):Int):Int) < (((List.length (itemsV x)):Nat):Int)))/\
 (∃ x0:Nat × T,(((AV.vptr (AV.cells (List.getD (itemsV x) (Int.toNat (↑(Y58.j y):Int)) AV.undef))) = (AV.vptr [(AV.int .i64 ((Prod.fst x0:Nat):Int)),(AV.int .i64 (T.k (Prod.snd x0))),(AV.int .i64 (T.n (Prod.snd x0))),(AV.str (T.s (Prod.snd x0))),(AV.slice 4 (tcellL (T.l (Prod.snd x0))) Cap.any)]))/\
 (∃ a1:OE,(((State.objs (y.1) (oid)) = (AObj.cells (OE.cs a1) 88 5 (OE.g a1)))/\
 ((((0:Nat) = 0)/\
 (((((((on) + 1) * 64):Nat) <= 140737488355328)/\
 ((((on) + 1):Nat) <= 4611686018427387904))/\
 ((((on) * 5):Nat) <= (List.length (OE.cs a1)))))/\
 (∃ x'2:Y58,(((I (x'2))/\
 (((LS.μ (ls58i l x m i I) x'2):Nat) < (LS.μ (ls58i l x m i I) y)))/\
 ((Rf (TV.v (AV.slice 7 (evL l) Cap.any)))/\
 ((Rf (TV.l 7 0))/\
 (((TV.v (AV.rslice (State.next (y.1)) 0 ((on) + 1))) = (TV.v (Y58.qv x'2)))/\
 ((Rf (TV.v (AV.int .i64 ((i:Nat):Int))))/\
 ((Rf (TV.v (AV.slice 5 (itemsV x) Cap.any)))/\
 (((TV.v (AV.int .i64 (IntKind.wrap .i64 (((Y58.j y:Nat):Int) + 1)))) = (TV.v (AV.int .i64 ((Y58.j x'2:Nat):Int))))/\
 ((Rf [(AV.slice 4 (rL (RM.I m)) Cap.any),(AV.slice 1 (intsV (RM.turn m)) Cap.any),(AV.int .i64 ((RM.work m:Nat):Int)),(AV.int .i64 ((RM.puts m:Nat):Int))])/\
 (State.Le ((ls58i l x m i I).3 x'2) (State.new (State.set (y.1) (oid) AObj.dead) (AObj.cells ((List.take ((on) * 5) (OE.cs a1)) ++ [(AV.int .i64 ((Prod.fst x0:Nat):Int)),(AV.int .i64 (T.k (Prod.snd x0))),(AV.int .i64 (T.n (Prod.snd x0))),(AV.str (T.s (Prod.snd x0))),(AV.slice 4 (tcellL (T.l (Prod.snd x0))) Cap.any)]) 88 5 true))))))))))))))))))
 ((((Y58.j y:Nat) < (List.length (x))) -> False)/\
 ((Rf (TV.v (AV.slice 7 (evL l) Cap.any)))/\
 ((Rf (TV.l 7 0))/\
 (((TV.v (AV.rslice (oid) 0 (on))) = (TV.v (Y58.qv y)))/\
 ((Rf (TV.v (AV.int .i64 ((i:Nat):Int))))/\
 ((Rf [(AV.slice 4 (rL (RM.I m)) Cap.any),(AV.slice 1 (intsV (RM.turn m)) Cap.any),(AV.int .i64 ((RM.work m:Nat):Int)),(AV.int .i64 ((RM.puts m:Nat):Int))])/\
 (State.Le (y.1) (y.1)))))))))):=by kernel_rfl
structure G58 where
 x:List (Nat × T)
 m:RM
 i:Nat
def T58i (l:List Ev) (P R:G58 -> Y58 -> Prop):LHand:=fun _ Q a σ => ∃ (g:G58) (y:Y58),P g y /\ atF a ((ls58i l g.x g.m g.i (P g)).F y) (FL58 g.m) (y.σ.Le σ) /\
 ∀ y':Y58,R g y' -> Q (.exit 2) (frm [(1,.v (.slice 7 (evL l) .any)),(7,.l 7 0),(9,.v y'.qv),(10,.v (.int .i64 (g.i:Int)))] (FL58 g.m)) y'.σ
def H58l (E:Env):Hand:=hnd E annA noHints [(51,C51w)]
def ls58 (l:List Ev) (I:Y58 -> Prop):LS Y58 where
 F y:=[(1,.v (.slice 7 (evL l) .any)),(7,.l 7 0),(9,.v y.qv),(10,.v (.int .i64 (y.i:Int)))]
 FL y:=FL58 y.m
 S y:=y.σ
 I:=I
 μ y:=l.length - y.i
 Ex y e a σ:=match e with
  | .exit 0 => ¬ (y.i < l.length) /\ atF a [(7,.l 7 0),(9,.v y.qv)] (FL58 y.m) (y.σ.Le σ)
  | .ret => ∃ (err:Int) (σ1:State),mrun y.m y.acc (l.drop y.i) = ([],false,err) /\ atF a [(4,.v .nilslice),(5,.v (.bool false)),(6,.v (.int .i64 err))] [] (σ1.Le σ)
  | _ => False
def N58l:FnHint:=hAt [(10,3,hEv)]
theorem vc58l (B:Nat) (w0:World) (G:Nat -> AV) (l:List Ev) (P R:G58 -> Y58 -> Prop) (I:Y58 -> Prop) (y:Y58):(wpX [] (EV B w0 G) (H58l (EV B w0 G)) (T58i l P R) (annA 58) N58l (bodyOf (fnPart Tryz.prog [] 58 0)) ((ls58 l I).post y) (frm [(1,.v (.slice 7 (evL l) .any)),(7,.l 7 0),(9,.v y.qv),(10,.v (.int .i64 (y.i:Int)))] (FL58 y.m)) y.σ) =
 ((bcase (decide ((((Y58.i y:Nat):Int):Int) < (((List.length (evL l)):Nat):Int)))
 ((((0:Int) <= ((Y58.i y:Nat):Int))/\
 ((((Y58.i y:Nat):Int):Int) < (((List.length (evL l)):Nat):Int)))/\
 (∃ x0:Ev,(((AV.vptr (AV.cells (List.getD (evL l) (Int.toNat (↑(Y58.i y):Int)) AV.undef))) = (AV.vptr [(AV.int .i64 (Ev.k x0)),(AV.int .i64 (Ev.i x0)),(AV.int .i64 (Ev.n x0)),(AV.int .i64 (T.k (Ev.t x0))),(AV.int .i64 (T.n (Ev.t x0))),(AV.str (T.s (Ev.t x0))),(AV.slice 4 (tcellL (T.l (Ev.t x0))) Cap.any)]))/\
 ((∃ m1:RM,(∃ e2:Ev,(∃ lv3:AV,(([(AV.agg [(AV.slice 4 (rL (RM.I (Y58.m y))) Cap.any),(AV.slice 1 (intsV (RM.turn (Y58.m y))) Cap.any),(AV.int .i64 (((RM.work (Y58.m y)):Nat):Int)),(AV.int .i64 (((RM.puts (Y58.m y)):Nat):Int))]),(AV.agg [(AV.int .i64 (Ev.k x0)),(AV.int .i64 (Ev.i x0)),(AV.int .i64 (Ev.n x0)),(AV.int .i64 (T.k (Ev.t x0))),(AV.int .i64 (T.n (Ev.t x0))),(AV.str (T.s (Ev.t x0))),(AV.slice 4 (tcellL (T.l (Ev.t x0))) Cap.any)])] = [(AV.agg [(AV.slice 4 (rL (RM.I m1)) Cap.any),(AV.slice 1 (intsV (RM.turn m1)) Cap.any),(AV.int .i64 ((RM.work m1:Nat):Int)),(AV.int .i64 ((RM.puts m1:Nat):Int))]),(AV.agg [(AV.int .i64 (Ev.k e2)),(AV.int .i64 (Ev.i e2)),(AV.int .i64 (Ev.n e2)),(AV.int .i64 (T.k (Ev.t e2))),(AV.int .i64 (T.n (Ev.t e2))),(AV.str (T.s (Ev.t e2))),(lv3)])])/\
 (((QV lv3 (T.l (Ev.t e2)))/\
 ((RM.Wf m1)/\
 (((T.bulk (Ev.t e2)):Nat) <= 1099511627776)))/\
 ((Rf (TV.v (AV.tuple [(AV.agg [(AV.slice 4 (rL (RM.I (Prod.fst (RM.doR m1 e2)))) Cap.any),(AV.slice 1 (intsV (RM.turn (Prod.fst (RM.doR m1 e2)))) Cap.any),(AV.int .i64 (((RM.work (Prod.fst (RM.doR m1 e2))):Nat):Int)),(AV.int .i64 (((RM.puts (Prod.fst (RM.doR m1 e2))):Nat):Int))]),(AV.slice 5 (itemsV (Prod.fst (Prod.snd (RM.doR m1 e2)))) Cap.any),(AV.int .i64 (Prod.snd (Prod.snd (RM.doR m1 e2))))])))/\
 ((Rf (TV.v (AV.agg [(AV.slice 4 (rL (RM.I (Prod.fst (RM.doR m1 e2)))) Cap.any),(AV.slice 1 (intsV (RM.turn (Prod.fst (RM.doR m1 e2)))) Cap.any),(AV.int .i64 (((RM.work (Prod.fst (RM.doR m1 e2))):Nat):Int)),(AV.int .i64 (((RM.puts (Prod.fst (RM.doR m1 e2))):Nat):Int))])))/\
 ((Rf (TV.v (AV.slice 5 (itemsV (Prod.fst (Prod.snd (RM.doR m1 e2)))) Cap.any)))/\
 ((Rf (TV.v (AV.int .i64 (Prod.snd (Prod.snd (RM.doR m1 e2))))))/\
 ((Rf (TV.v (AV.slice 5 (itemsV (Prod.fst (Prod.snd (RM.doR m1 e2)))) Cap.any)))/\
 ((Rf (TV.v (AV.int .i64 (Prod.snd (Prod.snd (RM.doR m1 e2))))))/\
 (bcase (((Prod.snd (Prod.snd (RM.doR m1 e2))):Int) != 0)
 (∃ err4:Int,(∃ σ15:State,(((mrun (Y58.m y) (Y58.acc y) (List.drop (Y58.i y) l)) = (Prod.mk [] (Prod.mk false (err4))))/\
 ((Rf (TV.v AV.nilslice))/\
 ((Rf (TV.v (AV.bool false)))/\
 (((TV.v (AV.int .i64 (Prod.snd (Prod.snd (RM.doR m1 e2))))) = (TV.v (AV.int .i64 (err4))))/\
 (State.Le σ15 (State.untok (y.1)))))))))
 (∃ g4:G58,(∃ y5:Y58,((P (g4) (y5))/\
 (((Rf (TV.v (AV.slice 7 (evL l) Cap.any)))/\
 ((Rf (TV.l 7 0))/\
 (((TV.v (Y58.qv y)) = (TV.v (Y58.qv y5)))/\
 (((TV.v (AV.int .i64 ((Y58.i y:Nat):Int))) = (TV.v (AV.int .i64 ((G58.i g4:Nat):Int))))/\
 (((TV.v (AV.slice 5 (itemsV (Prod.fst (Prod.snd (RM.doR m1 e2)))) Cap.any)) = (TV.v (AV.slice 5 (itemsV (G58.x g4)) Cap.any)))/\
 (((TV.v (AV.int .i64 0)) = (TV.v (AV.int .i64 ((Y58.j y5:Nat):Int))))/\
 (([(AV.slice 4 (rL (RM.I (Prod.fst (RM.doR m1 e2)))) Cap.any),(AV.slice 1 (intsV (RM.turn (Prod.fst (RM.doR m1 e2)))) Cap.any),(AV.int .i64 (((RM.work (Prod.fst (RM.doR m1 e2))):Nat):Int)),(AV.int .i64 (((RM.puts (Prod.fst (RM.doR m1 e2))):Nat):Int))] = [(AV.slice 4 (rL (RM.I (G58.m g4))) Cap.any),(AV.slice 1 (intsV (RM.turn (G58.m g4))) Cap.any),(AV.int .i64 (((RM.work (G58.m g4)):Nat):Int)),(AV.int .i64 (((RM.puts (G58.m g4)):Nat):Int))])/\
 (State.Le (y5.1) (State.untok (y.1))))))))))/\
 (∀ y'6:Y58,((R (g4) (y'6)) -> (∃ x'7:Y58,(((I (x'7))/\
 (((LS.μ (ls58 l I) x'7):Nat) < (LS.μ (ls58 l I) y)))/\
 ((Rf (TV.v (AV.slice 7 (evL l) Cap.any)))/\
 ((Rf (TV.l 7 0))/\
 (((TV.v (Y58.qv y'6)) = (TV.v (Y58.qv x'7)))/\
 (((TV.v (AV.int .i64 (IntKind.wrap .i64 (((G58.i g4:Nat):Int) + 1)))) = (TV.v (AV.int .i64 ((Y58.i x'7:Nat):Int))))/\
 (([(AV.slice 4 (rL (RM.I (G58.m g4))) Cap.any),(AV.slice 1 (intsV (RM.turn (G58.m g4))) Cap.any),(AV.int .i64 (((RM.work (G58.m g4)):Nat):Int)),(AV.int .i64 (((RM.puts (G58.m g4)):Nat):Int))] = [(AV.slice 4 (rL (RM.I (Y58.m x'7))) Cap.any),(AV.slice 1 (intsV (RM.turn (Y58.m x'7))) Cap.any),(AV.int .i64 (((RM.work (Y58.m x'7)):Nat):Int)),(AV.int .i64 (((RM.puts (Y58.m x'7)):Nat):Int))])/\
 (State.Le ((ls58 l I).3 x'7) (y'6.1)))))))))))))))))))))))))))/\
 ((Rf (TV.v (AV.agg [(AV.slice 4 (rL (RM.I (Y58.m y))) Cap.any),(AV.slice 1 (intsV (RM.turn (Y58.m y))) Cap.any),(AV.int .i64 (((RM.work (Y58.m y)):Nat):Int)),(AV.int .i64 (((RM.puts (Y58.m y)):Nat):Int))])))/\
 ((Rf (TV.v (AV.slice 7 (evL l) Cap.any)))/\
 ((Rf (TV.v (AV.int .i64 ((Y58.i y:Nat):Int))))/\
 (((((0:Int) <= ((Y58.i y:Nat):Int))/\
 ((((Y58.i y:Nat):Int):Int) < (((List.length (evL l)):Nat):Int)))/\
 (∃ x1:Ev,(((AV.vptr (AV.cells (List.getD (evL l) (Int.toNat (↑(Y58.i y):Int)) AV.undef))) = (AV.vptr [(AV.int .i64 (Ev.k x1)),(AV.int .i64 (Ev.i x1)),(AV.int .i64 (Ev.n x1)),(AV.int .i64 (T.k (Ev.t x1))),(AV.int .i64 (T.n (Ev.t x1))),(AV.str (T.s (Ev.t x1))),(AV.slice 4 (tcellL (T.l (Ev.t x1))) Cap.any)]))/\
 ((TV.v (AV.vptr [(AV.int .i64 (Ev.k x1)),(AV.int .i64 (Ev.i x1)),(AV.int .i64 (Ev.n x1)),(AV.int .i64 (T.k (Ev.t x1))),(AV.int .i64 (T.n (Ev.t x1))),(AV.str (T.s (Ev.t x1))),(AV.slice 4 (tcellL (T.l (Ev.t x1))) Cap.any)])) = (TV.v (AV.vptr [(AV.int .i64 (Ev.k x0)),(AV.int .i64 (Ev.i x0)),(AV.int .i64 (Ev.n x0)),(AV.int .i64 (T.k (Ev.t x0))),(AV.int .i64 (T.n (Ev.t x0))),(AV.str (T.s (Ev.t x0))),(AV.slice 4 (tcellL (T.l (Ev.t x0))) Cap.any)]))))))/\
 ((Rf (TV.v (AV.agg [(AV.int .i64 (Ev.k x0)),(AV.int .i64 (Ev.i x0)),(AV.int .i64 (Ev.n x0)),(AV.int .i64 (T.k (Ev.t x0))),(AV.int .i64 (T.n (Ev.t x0))),(AV.str (T.s (Ev.t x0))),(AV.slice 4 (tcellL (T.l (Ev.t x0))) Cap.any)])))/\
 (∃ m1:RM,(∃ e2:Ev,(∃ lv3:AV,(([(AV.agg [(AV.slice 4 (rL (RM.I (Y58.m y))) Cap.any),(AV.slice 1 (intsV (RM.turn (Y58.m y))) Cap.any),(AV.int .i64 (((RM.work (Y58.m y)):Nat):Int)),(AV.int .i64 (((RM.puts (Y58.m y)):Nat):Int))]),(AV.agg [(AV.int .i64 (Ev.k x0)),(AV.int .i64 (Ev.i x0)),(AV.int .i64 (Ev.n x0)),(AV.int .i64 (T.k (Ev.t x0))),(AV.int .i64 (T.n (Ev.t x0))),(AV.str (T.s (Ev.t x0))),(AV.slice 4 (tcellL (T.l (Ev.t x0))) Cap.any)])] = [(AV.agg [(AV.slice 4 (rL (RM.I m1)) Cap.any),(AV.slice 1 (intsV (RM.turn m1)) Cap.any),(AV.int .i64 ((RM.work m1:Nat):Int)),(AV.int .i64 ((RM.puts m1:Nat):Int))]),(AV.agg [(AV.int .i64 (Ev.k e2)),(AV.int .i64 (Ev.i e2)),(AV.int .i64 (Ev.n e2)),(AV.int .i64 (T.k (Ev.t e2))),(AV.int .i64 (T.n (Ev.t e2))),(AV.str (T.s (Ev.t e2))),(lv3)])])/\
 (((QV lv3 (T.l (Ev.t e2)))/\
 ((RM.Wf m1)/\
 (((T.bulk (Ev.t e2)):Nat) <= 1099511627776)))/\
 ((Rf (TV.v (AV.slice 5 (itemsV (Prod.fst (Prod.snd (RM.doR m1 e2)))) Cap.any)))/\
 ((Rf (TV.v (AV.int .i64 (Prod.snd (Prod.snd (RM.doR m1 e2))))))/\
 (bcase (((Prod.snd (Prod.snd (RM.doR m1 e2))):Int) != 0)
 (∃ err4:Int,(∃ σ15:State,(((mrun (Y58.m y) (Y58.acc y) (List.drop (Y58.i y) l)) = (Prod.mk [] (Prod.mk false (err4))))/\
 ((Rf (TV.v AV.nilslice))/\
 ((Rf (TV.v (AV.bool false)))/\
 (((TV.v (AV.int .i64 (Prod.snd (Prod.snd (RM.doR m1 e2))))) = (TV.v (AV.int .i64 (err4))))/\
 (State.Le σ15 (State.untok (y.1)))))))))
 (∃ g4:G58,(∃ y5:Y58,((P (g4) (y5))/\
 (((Rf (TV.v (AV.slice 7 (evL l) Cap.any)))/\
 ((Rf (TV.l 7 0))/\
 (((TV.v (Y58.qv y)) = (TV.v (Y58.qv y5)))/\
 (((TV.v (AV.int .i64 ((Y58.i y:Nat):Int))) = (TV.v (AV.int .i64 ((G58.i g4:Nat):Int))))/\
 (((TV.v (AV.slice 5 (itemsV (Prod.fst (Prod.snd (RM.doR m1 e2)))) Cap.any)) = (TV.v (AV.slice 5 (itemsV (G58.x g4)) Cap.any)))/\
 (((TV.v (AV.int .i64 0)) = (TV.v (AV.int .i64 ((Y58.j y5:Nat):Int))))/\
 (([(AV.slice 4 (rL (RM.I (Prod.fst (RM.doR m1 e2)))) Cap.any),(AV.slice 1 (intsV (RM.turn (Prod.fst (RM.doR m1 e2)))) Cap.any),(AV.int .i64 (((RM.work (Prod.fst (RM.doR m1 e2))):Nat):Int)),(AV.int .i64 (((RM.puts (Prod.fst (RM.doR m1 e2))):Nat):Int))] = [(AV.slice 4 (rL (RM.I (G58.m g4))) Cap.any),(AV.slice 1 (intsV (RM.turn (G58.m g4))) Cap.any),(AV.int .i64 (((RM.work (G58.m g4)):Nat):Int)),(AV.int .i64 (((RM.puts (G58.m g4)):Nat):Int))])/\
 (State.Le (y5.1) (State.untok (y.1))))))))))/\
 (∀ y'6:Y58,((R (g4) (y'6)) -> (∃ x'7:Y58,(((I (x'7))/\
 (((LS.μ (ls58 l I) x'7):Nat) < (LS.μ (ls58 l I) y)))/\
 ((Rf (TV.v (AV.slice 7 (evL l) Cap.any)))/\
 ((Rf (TV.l 7 0))/\
 (((TV.v (Y58.qv y'6)) = (TV.v (Y58.qv x'7)))/\
 (((TV.v (AV.int .i64 (IntKind.wrap .i64 (((G58.i g4:Nat):Int) + 1)))) = (TV.v (AV.int .i64 ((Y58.i x'7:Nat):Int))))/\
 (([(AV.slice 4 (rL (RM.I (G58.m g4))) Cap.any),(AV.slice 1 (intsV (RM.turn (G58.m g4))) Cap.any),(AV.int .i64 (((RM.work (G58.m g4)):Nat):Int)),(AV.int .i64 (((RM.puts (G58.m g4)):Nat):Int))] = [(AV.slice 4 (rL (RM.I (Y58.m x'7))) Cap.any),(AV.slice 1 (intsV (RM.turn (Y58.m x'7))) Cap.any),(AV.int .i64 (((RM.work (Y58.m x'7)):Nat):Int)),(AV.int .i64 (((RM.puts (Y58.m x'7)):Nat):Int))])/\
 (State.Le ((ls58 l I).3 x'7) (y'6.1))))))))))))))))))))))))))))))))
 ((((Y58.i y:Nat) < (List.length (l))) -> False)/\
 ((Rf (TV.l 7 0))/\
 ((Rf (TV.v (Y58.qv y)))/\
 ((Rf [(AV.slice 4 (rL (RM.I (Y58.m y))) Cap.any),(AV.slice 1 (intsV (RM.turn (Y58.m y))) Cap.any),(AV.int .i64 (((RM.work (Y58.m y)):Nat):Int)),(AV.int .i64 (((RM.puts (Y58.m y)):Nat):Int))])/\
 (State.Le (y.1) (y.1)))))))):=by kernel_rfl
def T58 (l:List Ev) (I R:Y58 -> Prop) (E:Int -> Prop):LHand:=fun _ Q a σ => ∃ y:Y58,I y /\ atF a ((ls58 l I).F y) (FL58 y.m) (y.σ.Le σ) /\
 ((∀ y':Y58,R y' -> Q (.exit 0) (frm [(7,.l 7 0),(9,.v y'.qv)] (FL58 y'.m)) y'.σ) /\ ∀ (err:Int) (σ1:State),E err -> Q .ret (frm [(4,.v .nilslice),(5,.v (.bool false)),(6,.v (.int .i64 err))] []) σ1)
def H58 (E:Env):Hand:=hnd E annA noHints [(49,C49v),(100,C100v)]
theorem vc58 (B:Nat) (w0:World) (G:Nat -> AV) (n:Int) (l:List Ev) (I R:Y58 -> Prop) (E:Int -> Prop) (Q:AV -> State -> Prop):(bodyX [] (EV B w0 G) (H58 (EV B w0 G)) (T58 l I R E) annA noHint 58 [.int .i64 n,.slice 7 (evL l) .any] noObj Q) =
 ((∃ n0:Int,(([(AV.int .i64 (n))] = [(AV.int .i64 (n0))])/\
 (((((0:Int) <= (n0))/\
 (((n0):Int) <= 64)) -> (bcase (decide (((((List.length (evL l)):Nat):Int):Int) > 40000))
 (Q (AV.tuple [AV.nilslice,(AV.bool false),(AV.int .i64 2)]) (State.untok (noObj)))
 (∃ y1:Y58,((I (y1))/\
 (((Rf (TV.v (AV.slice 7 (evL l) Cap.any)))/\
 ((Rf (TV.l 7 0))/\
 (((TV.v (AV.slice 5 [] Cap.full)) = (TV.v (Y58.qv y1)))/\
 (((TV.v (AV.int .i64 0)) = (TV.v (AV.int .i64 ((Y58.i y1:Nat):Int))))/\
 (([(AV.slice 4 (rL (RM.I (RM.new (Int.toNat n0)))) Cap.any),(AV.slice 1 [] Cap.any),(AV.int .i64 (((RM.work (RM.new (Int.toNat n0))):Nat):Int)),(AV.int .i64 0)] = [(AV.slice 4 (rL (RM.I (Y58.m y1))) Cap.any),(AV.slice 1 (intsV (RM.turn (Y58.m y1))) Cap.any),(AV.int .i64 (((RM.work (Y58.m y1)):Nat):Int)),(AV.int .i64 (((RM.puts (Y58.m y1)):Nat):Int))])/\
 (State.Le (y1.1) (State.untok (noObj))))))))/\
 ((∀ y'2:Y58,((R (y'2)) -> (∃ m3:RM,(([(AV.agg [(AV.slice 4 (rL (RM.I (Y58.m y'2))) Cap.any),(AV.slice 1 (intsV (RM.turn (Y58.m y'2))) Cap.any),(AV.int .i64 (((RM.work (Y58.m y'2)):Nat):Int)),(AV.int .i64 (((RM.puts (Y58.m y'2)):Nat):Int))])] = [(AV.agg [(AV.slice 4 (rL (RM.I m3)) Cap.any),(AV.slice 1 (intsV (RM.turn m3)) Cap.any),(AV.int .i64 ((RM.work m3:Nat):Int)),(AV.int .i64 ((RM.puts m3:Nat):Int))])])/\
 ((((List.length (RM.I m3)):Nat) <= 1000000)/\
 (Q (AV.tuple [(Y58.qv y'2),(AV.bool (RM.done m3)),(AV.int .i64 0)]) (State.untok (y'2.1))))))))/\
 (∀ err2:Int,(∀ σ13:State,((E (err2)) -> (Q (AV.tuple [AV.nilslice,(AV.bool false),(AV.int .i64 (err2))]) σ13))))))))))/\
 (((((0:Int) <= (n0))/\
 (((n0):Int) <= 64)) -> False) -> (Q (AV.tuple [AV.nilslice,(AV.bool false),(AV.int .i64 1)]) (State.untok (noObj)))))))):=by kernel_rfl
/- the law -/
def H15 (E:Env):Hand:=hnd E annA noHints [(16,C16),(57,C57),(58,C58),(52,C52)]
theorem vc15 (B:Nat) (w0:World) (G:Nat -> AV) (N:Int) (l:List Ev) (Q:AV -> State -> Prop):(bodyC (EV B w0 G) (H15 (EV B w0 G)) (fun _ _ _ _ => False) annA noHint 15 [.agg [.int .i64 N,.slice 7 (evL l) .any]] noObj Q) =
 (((([]:List AV) = [])/\
 (bcase (decide (((((List.length (evL l)):Nat):Int):Int) > 400))
 (bcase (decide (((((List.length (evL l)):Nat):Int):Int) <= 40000))
 (Q (AV.bool true) (State.untok (noObj)))
 (∃ n0:Int,(∃ l1:List Ev,(([(AV.int .i64 (N)),(AV.slice 7 (evL l) Cap.any)] = [(AV.int .i64 (n0)),(AV.slice 7 (evL l1) Cap.any)])/\
 ((∀ e2:Ev,((e2 ∈ l1) -> (((T.bulk (Ev.t e2)):Nat) <= 1099511627776)))/\
 (∃ n2:Int,(∃ l3:List Ev,(([(AV.int .i64 (N)),(AV.slice 7 (evL l) Cap.any)] = [(AV.int .i64 (n2)),(AV.slice 7 (evL l3) Cap.any)])/\
 ((∀ e4:Ev,((e4 ∈ l3) -> (((T.bulk (Ev.t e4)):Nat) <= 1099511627776)))/\
 (∃ l4:List (Nat × T),(([(AV.slice 5 (itemsV (Prod.fst (mergeS n0 l1))) Cap.any),(AV.slice 5 (itemsV (Prod.fst (mergeS n2 l3))) Cap.any)] = [(AV.slice 5 (itemsV l4) Cap.any),(AV.slice 5 (itemsV l4) Cap.any)])/\
 (((((List.length (l4)):Nat) <= 1000000)/\
 (∀ x5:Nat × T,((x5 ∈ l4) -> (T.small (Prod.snd x5)))))/\
 (bcase (((Prod.fst (Prod.snd (mergeS n0 l1))):Bool) == (Prod.fst (Prod.snd (mergeS n2 l3))))
 (Q (AV.bool (((Prod.snd (Prod.snd (mergeS n0 l1))):Int) == (Prod.snd (Prod.snd (mergeS n2 l3))))) (State.untok (State.untok (State.untok (State.untok (noObj))))))
 (Q (AV.bool false) (State.untok (State.untok (State.untok (State.untok (noObj)))))))))))))))))))
 (∃ n0:Int,(∃ l1:List Ev,(([(AV.int .i64 (N)),(AV.slice 7 (evL l) Cap.any)] = [(AV.int .i64 (n0)),(AV.slice 7 (evL l1) Cap.any)])/\
 ((∀ e2:Ev,((e2 ∈ l1) -> (((T.bulk (Ev.t e2)):Nat) <= 1099511627776)))/\
 (∃ n2:Int,(∃ l3:List Ev,(([(AV.int .i64 (N)),(AV.slice 7 (evL l) Cap.any)] = [(AV.int .i64 (n2)),(AV.slice 7 (evL l3) Cap.any)])/\
 ((∀ e4:Ev,((e4 ∈ l3) -> (((T.bulk (Ev.t e4)):Nat) <= 1099511627776)))/\
 (∃ l4:List (Nat × T),(([(AV.slice 5 (itemsV (Prod.fst (mergeS n0 l1))) Cap.any),(AV.slice 5 (itemsV (Prod.fst (mergeS n2 l3))) Cap.any)] = [(AV.slice 5 (itemsV l4) Cap.any),(AV.slice 5 (itemsV l4) Cap.any)])/\
 (((((List.length (l4)):Nat) <= 1000000)/\
 (∀ x5:Nat × T,((x5 ∈ l4) -> (T.small (Prod.snd x5)))))/\
 (bcase (((Prod.fst (Prod.snd (mergeS n0 l1))):Bool) == (Prod.fst (Prod.snd (mergeS n2 l3))))
 (Q (AV.bool (((Prod.snd (Prod.snd (mergeS n0 l1))):Int) == (Prod.snd (Prod.snd (mergeS n2 l3))))) (State.untok (State.untok (State.untok (State.untok (noObj))))))
 (Q (AV.bool false) (State.untok (State.untok (State.untok (State.untok (noObj))))))))))))))))))))):=by kernel_rfl
end Go.V
/- Merge: events told, and what they do. -/
set_option linter.unusedSimpArgs false
set_option linter.unusedSectionVars false
namespace Go.V
open Go Go.Proofs

theorem itemsV_snoc (l:List (Nat × T)) (x:Nat × T):flat (itemsV (l ++ [x])) = flat (itemsV l) ++ [.int .i64 (x.1:Int),.int .i64 x.2.k,.int .i64 x.2.n,.str x.2.s,.slice 4 (tcellL x.2.l) .any]:=by
 unfold itemsV
 rw [List.map_append,flat_append]
 simp [flat,AV.cells,itemC]
theorem flat_itemsV_len (l:List (Nat × T)):(flat (itemsV l)).length = l.length * 5:=by
 induction l with
 | nil => rfl
 | cons x l ih =>
  show (flat (itemC x :: itemsV l)).length = _
  rw [flat_cons,List.length_append,ih]
  show 5 + l.length * 5 = _
  simp; omega

section
variable {B:Nat} {w0:World} {G:Nat -> AV}
theorem c102_ok:ContractOk (EV B w0 G) 102 C102:=by
 rintro args σ Q ⟨e,p,rfl,h0,h1,h2,h3,h4⟩
 refine bodyC_ok (EV_mixed B w0 G) H0_ok (fun l hl _ Q a σ k => k.elim) ((vc102 B w0 G σ e p Q).mpr ?_)
 have k0:isEv e = false -> Q .niliface σ:=h0
 have nT:noneT e.t = (e.t.k == 0 && (e.t.n == 0 && (bseq e.t.s ⟨#[]⟩ && (((tcellL e.t.l).length:Int) == 0)))):=rfl
 have f1:(e.k == 1) = true -> isEv e = (e.n == 0):=fun h => by unfold isEv; rw [h]; rfl
 have f2:(e.k == 1) = false -> (e.k == 2) = true -> isEv e = (if e.n == 0 then noneT e.t else false):=fun h h' => by unfold isEv; rw [h,h']; rfl
 have f3:(e.k == 1) = false -> (e.k == 2) = false -> (e.k == 3) = true -> isEv e = noneT e.t:=fun h h' h'' => by unfold isEv; rw [h,h',h'']; rfl
 have f4:(e.k == 1) = false -> (e.k == 2) = false -> (e.k == 3) = false -> isEv e = (if e.k == 4 then (if e.i == 0 then (if e.n == 0 then noneT e.t else false) else false) else false):=fun h h' h'' => by unfold isEv; rw [h,h',h'']; rfl
 have n23:(e.k == 2) = true -> (e.k == 3) = false:=fun h => by rw [show e.k = 2 by simpa using h]; rfl
 have n24:(e.k == 2) = true -> (e.k == 4) = false:=fun h => by rw [show e.k = 2 by simpa using h]; rfl
 have n34:(e.k == 3) = true -> (e.k == 4) = false:=fun h => by rw [show e.k = 3 by simpa using h]; rfl
 have n12:(e.k == 1) = true -> (e.k == 2) = false:=fun h => by rw [show e.k = 1 by simpa using h]; rfl
 have n13:(e.k == 1) = true -> (e.k == 3) = false:=fun h => by rw [show e.k = 1 by simpa using h]; rfl
 have n14:(e.k == 1) = true -> (e.k == 4) = false:=fun h => by rw [show e.k = 1 by simpa using h]; rfl
 have e1:(e.k == 1) = true -> e.k = 1:=fun h => by simpa using h
 have e2:(e.k == 2) = true -> e.k = 2:=fun h => by simpa using h
 have e3:(e.k == 3) = true -> e.k = 3:=fun h => by simpa using h
 have e4:(e.k == 4) = true -> e.k = 4:=fun h => by simpa using h
 clear h0
 -- what holds of each kind
 have r1:(e.k == 1) = true -> (e.n == 0) = true -> Q (.iface 206 (.agg [.int .i64 e.i,.int .i64 e.t.k,.int .i64 e.t.n,.str e.t.s,.slice 4 (tcellL e.t.l) .any])) σ:=fun a b => h1 (by rw [f1 a,b]) (e1 a)
 have r1n:(e.k == 1) = true -> (e.n == 0) = false -> Q .niliface σ:=fun a b => k0 (by rw [f1 a,b])
 have r2:(e.k == 1) = false -> (e.k == 2) = true -> (e.n == 0) = true -> noneT e.t = true -> Q (.iface 208 (.agg [.int .i64 e.i])) σ:=fun a b c d => h2 (by rw [f2 a b,c,d]; rfl) (e2 b)
 have r3:(e.k == 1) = false -> (e.k == 2) = false -> (e.k == 3) = true -> noneT e.t = true -> Q (.iface 210 (.agg [.int .i64 e.i,.int .i64 e.n])) σ:=fun a b c d => h3 (by rw [f3 a b c,d]) (e3 c)
 have r4:(e.k == 1) = false -> (e.k == 2) = false -> (e.k == 3) = false -> (e.k == 4) = true -> (e.i == 0) = true -> (e.n == 0) = true -> noneT e.t = true -> Q (.iface 212 (.agg [.ptr p 0])) σ:=fun a b c d f g h => h4 (by rw [f4 a b c,d,f,g,h]; rfl) (e4 d)
 have rt:noneT e.t = false -> (e.k == 1) = false -> Q .niliface σ:=fun a b => k0 (by
  cases c:(e.k == 2) with
  | true => rw [f2 b c,a]; simp
  | false =>
   cases d:(e.k == 3) with
   | true => rw [f3 b c d,a]
   | false => rw [f4 b c d,a]; simp)
 have r2n:(e.k == 1) = false -> (e.k == 2) = true -> (e.n == 0) = false -> Q .niliface σ:=fun a b c => k0 (by rw [f2 a b,c]; rfl)
 have r4k:(e.k == 1) = false -> (e.k == 2) = false -> (e.k == 3) = false -> (e.k == 4) = false -> Q .niliface σ:=fun a b c d => k0 (by rw [f4 a b c,d]; rfl)
 have r4i:(e.k == 1) = false -> (e.k == 2) = false -> (e.k == 3) = false -> (e.i == 0) = false -> Q .niliface σ:=fun a b c d => k0 (by rw [f4 a b c,d]; simp)
 have r4n:(e.k == 1) = false -> (e.k == 2) = false -> (e.k == 3) = false -> (e.n == 0) = false -> Q .niliface σ:=fun a b c d => k0 (by rw [f4 a b c,d]; simp)
 clear h1 h2 h3 h4 f1 f2 f3 f4 e1 e2 e3 e4
 generalize noneT e.t = nt at *
 cases a1:(e.t.k == 0) <;> cases a2:(e.t.n == 0) <;> cases a3:bseq e.t.s { data:=#[] } <;> cases a4:(((tcellL e.t.l).length:Int) == 0) <;> rw [a1,a2,a3,a4] at nT <;> simp only [Bool.and_true,Bool.and_false,Bool.true_and,Bool.false_and] at nT <;> subst nT <;>
 cases b1:(e.k == 1) <;> cases b2:(e.k == 2) <;> (try (have:=n12 b1; rw [b2] at this; cases this)) <;> cases b3:(e.k == 3) <;> (try (have:=n13 b1; rw [b3] at this; cases this)) <;> (try (have:=n23 b2; rw [b3] at this; cases this)) <;> cases b4:(e.k == 4) <;> (try (have:=n14 b1; rw [b4] at this; cases this)) <;> (try (have:=n24 b2; rw [b4] at this; cases this)) <;> (try (have:=n34 b3; rw [b4] at this; cases this)) <;>
 cases b6:(e.n == 0) <;> cases b5:(e.i == 0) <;>
 first
 | exact r1 b1 b6
 | exact r1n b1 b6
 | exact rt rfl b1
 | exact r2 b1 b2 b6 rfl
 | exact r2n b1 b2 b6
 | exact r3 b1 b2 b3 rfl
 | exact r4k b1 b2 b3 b4
 | exact r4n b1 b2 b3 b6
 | exact r4i b1 b2 b3 b5
 | exact r4 b1 b2 b3 b4 b5 b6 rfl
end
end Go.V
