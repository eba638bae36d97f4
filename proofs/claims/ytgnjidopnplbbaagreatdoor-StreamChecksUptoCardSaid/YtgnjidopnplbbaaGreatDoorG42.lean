import Derived.Test.YtgnjidopnplbbaaGreatDoorG40
import Derived.Test.YtgnjidopnplbbaaGreatDoorG31
/- Conditions: the reference's variables of terms, its ground. -/
set_option maxRecDepth 1000000
set_option linter.unusedVariables false
namespace Go.V
open Go Go.Proofs

/- In -/
def ls149 (id n:Nat) (k:Int) (σ:State):LS Nat where
 F i:=[(0,.v (.rslice id 0 n)),(1,.v (.int .i64 k)),(5,.v (.int .i64 (i:Int)))]
 FL _:=[]
 S _:=σ
 I i:=i <= n
 μ i:=n - i
 Ex _ e a σ':=match e with
  | .exit 0 => atF a [] [] (σ.Le σ')
  | .ret => atF a [(4,.v (.bool true))] [] (σ.Le σ')
  | _ => False
def hAZ:Hint:=Hint.ofAs (fun x:OE => AObj.cells x.cs 3 1 x.g) (fun n:Int => AV.int .i64 n)
def N149:FnHint:=hAt [(4,2,hEl 3 1),(4,3,hAZ)]
theorem fnParts_149:fnParts Tryz.prog [] 149 = [.loop (bodyOf (fnPart Tryz.prog [] 149 0))]:=by kernel_rfl
theorem vc149l (B:Nat) (w0:World) (G:Nat -> AV) (id n:Nat) (k:Int) (σ:State) (i:Nat):(wpX [] (EV B w0 G) (H0 (EV B w0 G)) (fun _ _ _ _ => False) (annA 149) N149 (bodyOf (fnPart Tryz.prog [] 149 0)) ((ls149 id n k σ).post i) (frm [(0,.v (.rslice id 0 n)),(1,.v (.int .i64 k)),(5,.v (.int .i64 (i:Int)))] []) σ) =
 ((bcase (decide ((((i:Nat):Int):Int) < ((n:Nat):Int)))
 (∃ a0:OE,(((State.objs σ (id)) = (AObj.cells (OE.cs a0) 3 1 (OE.g a0)))/\
 ((((0:Int) <= ((i:Nat):Int))/\
 ((((i:Nat):Int):Int) < ((n:Nat):Int)))/\
 (∃ a1:OE,(((State.objs σ (id)) = (AObj.cells (OE.cs a1) 3 1 (OE.g a1)))/\
 (((((0 + (Int.toNat ((i:Nat):Int))) * 1):Nat) < (List.length (OE.cs a1)))/\
 (∃ x2:Int,(((List.getD (OE.cs a1) ((0 + Int.toNat (↑i:Int)) * 1) AV.undef) = (AV.int .i64 (x2)))/\
 (bcase (((x2):Int) == (k))
 ((Rf (TV.v (AV.bool true)))/\
 (State.Le σ σ))
 (∃ x'3:Nat,(((LS.I (ls149 id n k σ) x'3)/\
 (((LS.μ (ls149 id n k σ) x'3):Nat) < (LS.μ (ls149 id n k σ) i)))/\
 ((Rf (TV.v (AV.rslice (id) 0 (n))))/\
 ((Rf (TV.v (AV.int .i64 (k))))/\
 (((TV.v (AV.int .i64 (IntKind.wrap .i64 (((i:Nat):Int) + 1)))) = (TV.v (AV.int .i64 (((x'3):Nat):Int))))/\
 (State.Le ((ls149 id n k σ).3 x'3) σ)))))))))))))))
 (State.Le σ σ))):=by kernel_rfl
def T149 (id n:Nat) (k:Int) (σ0:State):LHand:=fun _ Q a σ => atF a ((ls149 id n k σ0).F 0) [] (σ0.Le σ) /\ (Q (.exit 0) (frm [] []) σ0 /\ Q .ret (frm [(4,.v (.bool true))] []) σ0)
theorem vc149 (B:Nat) (w0:World) (G:Nat -> AV) (id n:Nat) (k:Int) (σ:State) (Q:AV -> State -> Prop):(bodyX [] (EV B w0 G) (H0 (EV B w0 G)) (T149 id n k σ) annA N149 149 [.rslice id 0 n,.int .i64 k] σ Q) =
 ((((Rf (TV.v (AV.rslice (id) 0 (n))))/\
 ((Rf (TV.v (AV.int .i64 (k))))/\
 ((Rf (TV.v (AV.int .i64 0)))/\
 (State.Le σ σ))))/\
 ((Q (AV.bool false) σ)/\
 (Q (AV.bool true) σ)))):=by kernel_rfl
theorem vc149n (B:Nat) (w0:World) (G:Nat -> AV) (k:Int) (σ:State) (Q:AV -> State -> Prop):(bodyC (EV B w0 G) (H0 (EV B w0 G)) (loopC (EV B w0 G) (H0 (EV B w0 G)) 149 none (fnTmps Tryz.prog 149) (annA 149) noHint 3) annA noHint 149 [.nilslice,.int .i64 k] σ Q) =
 ((Q (AV.bool false) σ)):=by kernel_rfl
def OutS (acc:List T) (v:AV) (σ:State):Prop:=(v = .nilslice /\ ∀ x ∈ acc,x.k ≠ 1) \/
 ∃ (id n:Nat) (l:List Int) (g:Bool),v = .rslice id 0 n /\ 0 < n /\ n <= acc.length /\ l.length = n /\ σ.objs id = .cells (intsZ l) 3 1 g /\ ∃ x ∈ acc,x.k = 1
def C149:Contract:=fun args σ K => ∃ (v:AV) (k:Int) (acc:List T),args = [v,.int .i64 k] /\ (OutS acc v σ /\ acc.length <= 100000) /\ (K (.bool false) σ /\ ((∃ x ∈ acc,x.k = 1) -> K (.bool true) σ))
def C128 (N:Nat):Contract:=fun args σ K => ∃ (t:T) (v:AV) (acc:List T),args = [.agg (tc t),v] /\ (SizeOf.sizeOf t < N /\ acc.length + (nodesT t).length <= 100000 /\ OutS acc v σ) /\
 ∀ (v':AV) (σ':State),OutS (acc ++ nodesT t) v' σ' -> K v' σ'
def H128 (E:Env) (N:Nat):Hand:=hnd E annA noHints [(149,C149),(128,C128 N)]
structure Y128 where
 σ:State
 v:AV
 i:Nat
def ls128 (t:T) (I:Y128 -> Prop):LS Y128 where
 F y:=[(1,.v y.v),(2,.l 2 0),(5,.v (.int .i64 (y.i:Int)))]
 FL _:=[(2,tc t)]
 S y:=y.σ
 I:=I
 μ y:=t.l.length - y.i
 Ex y e a σ:=match e with
  | .exit 0 => ¬ (y.i < t.l.length) /\ atF a [(1,.v y.v)] [] (y.σ.Le σ)
  | _ => False
def N128:FnHint:=hAt [(2,4,hEl 3 1),(6,3,hT)]
theorem fnParts_128:fnParts Tryz.prog [] 128 = [.loop (bodyOf (fnPart Tryz.prog [] 128 0))]:=by kernel_rfl
theorem vc128l (B:Nat) (w0:World) (G:Nat -> AV) (N:Nat) (t:T) (I:Y128 -> Prop) (y:Y128):(wpX [] (EV B w0 G) (H128 (EV B w0 G) N) (fun _ _ _ _ => False) (annA 128) N128 (bodyOf (fnPart Tryz.prog [] 128 0)) ((ls128 t I).post y) (frm [(1,.v y.v),(2,.l 2 0),(5,.v (.int .i64 (y.i:Int)))] [(2,tc t)]) y.σ) =
 ((bcase (decide ((((Y128.i y:Nat):Int):Int) < (((List.length (tcellL (T.l t))):Nat):Int)))
 ((((0:Int) <= ((Y128.i y:Nat):Int))/\
 ((((Y128.i y:Nat):Int):Int) < (((List.length (tcellL (T.l t))):Nat):Int)))/\
 (∃ x0:T,(((AV.vptr (AV.cells (List.getD (tcellL (T.l t)) (Int.toNat (↑(Y128.i y):Int)) AV.undef))) = (AV.vptr [(AV.int .i64 (T.k x0)),(AV.int .i64 (T.n x0)),(AV.str (T.s x0)),(AV.slice 4 (tcellL (T.l x0)) Cap.any)]))/\
 (∃ t1:T,(∃ v2:AV,(∃ acc3:List T,(([(AV.agg [(AV.int .i64 (T.k x0)),(AV.int .i64 (T.n x0)),(AV.str (T.s x0)),(AV.slice 4 (tcellL (T.l x0)) Cap.any)]),(Y128.v y)] = [(AV.agg [(AV.int .i64 (T.k t1)),(AV.int .i64 (T.n t1)),(AV.str (T.s t1)),(AV.slice 4 (tcellL (T.l t1)) Cap.any)]),(v2)])/\
 ((((SizeOf.sizeOf t1:Nat) < (N))/\
 (((((List.length (acc3)) + (List.length (nodesT t1))):Nat) <= 100000)/\
 ((((v2) = AV.nilslice)/\
 (∀ x4:T,((x4 ∈ acc3) -> (((T.k x4):Int) ≠ 1)))) \/ (∃ id4:Nat,(∃ n5:Nat,(∃ l6:List Int,(∃ g7:Bool,(((v2) = (AV.rslice (id4) 0 (n5)))/\
 (((0:Nat) < (n5))/\
 ((((n5):Nat) <= (List.length (acc3)))/\
 ((((List.length (l6)):Nat) = (n5))/\
 (((State.objs (y.1) (id4)) = (AObj.cells (intsZ l6) 3 1 (g7)))/\
 (∃ x8:T,((x8 ∈ acc3)/\
 (((T.k x8):Int) = 1)))))))))))))))/\
 (∀ v'4:AV,(∀ σ'5:State,(((((v'4) = AV.nilslice)/\
 (∀ x6:T,((x6 ∈ acc3 ++ nodesT t1) -> (((T.k x6):Int) ≠ 1)))) \/ (∃ id6:Nat,(∃ n7:Nat,(∃ l8:List Int,(∃ g9:Bool,(((v'4) = (AV.rslice (id6) 0 (n7)))/\
 (((0:Nat) < (n7))/\
 ((((n7):Nat) <= (List.length ((acc3) ++ (nodesT t1))))/\
 ((((List.length (l8)):Nat) = (n7))/\
 (((State.objs σ'5 (id6)) = (AObj.cells (intsZ l8) 3 1 (g9)))/\
 (∃ x10:T,((x10 ∈ acc3 ++ nodesT t1)/\
 (((T.k x10):Int) = 1))))))))))))) -> (∃ x'6:Y128,(((I (x'6))/\
 (((LS.μ (ls128 t I) x'6):Nat) < (LS.μ (ls128 t I) y)))/\
 (((TV.v (v'4)) = (TV.v (Y128.v x'6)))/\
 ((Rf (TV.l 2 0))/\
 (((TV.v (AV.int .i64 (IntKind.wrap .i64 (((Y128.i y:Nat):Int) + 1)))) = (TV.v (AV.int .i64 ((Y128.i x'6:Nat):Int))))/\
 ((Rf [(AV.int .i64 (T.k t)),(AV.int .i64 (T.n t)),(AV.str (T.s t)),(AV.slice 4 (tcellL (T.l t)) Cap.any)])/\
 (State.Le ((ls128 t I).3 x'6) σ'5))))))))))))))))))
 ((((Y128.i y:Nat) < (List.length (T.l t))) -> False)/\
 ((Rf (TV.v (Y128.v y)))/\
 (State.Le (y.1) (y.1)))))):=by kernel_rfl
def T128 (t:T) (I R:Y128 -> Prop):LHand:=fun _ Q a σ => ∃ y:Y128,I y /\ atF a ((ls128 t I).F y) [(2,tc t)] (y.σ.Le σ) /\ ∀ y':Y128,R y' -> Q (.exit 0) (frm [(1,.v y'.v)] []) y'.σ
theorem vc128n (B:Nat) (w0:World) (G:Nat -> AV) (N:Nat) (t:T) (I R:Y128 -> Prop) (σ:State) (Q:AV -> State -> Prop):(bodyX [] (EV B w0 G) (H128 (EV B w0 G) N) (T128 t I R) annA N128 128 [.agg (tc t),.nilslice] σ Q) =
 ((bcase (((T.k t):Int) == 1)
 (∃ v0:AV,(∃ k1:Int,(∃ acc2:List T,(([AV.nilslice,(AV.int .i64 (T.n t))] = [(v0),(AV.int .i64 (k1))])/\
 ((((((v0) = AV.nilslice)/\
 (∀ x3:T,((x3 ∈ acc2) -> (((T.k x3):Int) ≠ 1)))) \/ (∃ id3:Nat,(∃ n4:Nat,(∃ l5:List Int,(∃ g6:Bool,(((v0) = (AV.rslice (id3) 0 (n4)))/\
 (((0:Nat) < (n4))/\
 ((((n4):Nat) <= (List.length (acc2)))/\
 ((((List.length (l5)):Nat) = (n4))/\
 (((State.objs σ (id3)) = (AObj.cells (intsZ l5) 3 1 (g6)))/\
 (∃ x7:T,((x7 ∈ acc2)/\
 (((T.k x7):Int) = 1)))))))))))))/\
 (((List.length (acc2)):Nat) <= 100000))/\
 (((((8:Nat) <= 140737488355328)/\
 ((1:Nat) <= 4611686018427387904))/\
 (∃ y3:Y128,((I (y3))/\
 ((((TV.v (AV.rslice (State.next σ) 0 1)) = (TV.v (Y128.v y3)))/\
 ((Rf (TV.l 2 0))/\
 (((TV.v (AV.int .i64 0)) = (TV.v (AV.int .i64 ((Y128.i y3:Nat):Int))))/\
 ((Rf [(AV.int .i64 (T.k t)),(AV.int .i64 (T.n t)),(AV.str (T.s t)),(AV.slice 4 (tcellL (T.l t)) Cap.any)])/\
 (State.Le (y3.1) (State.new σ (AObj.cells [(AV.int .i64 (T.n t))] 3 1 true)))))))/\
 (∀ y'4:Y128,((R (y'4)) -> (Q (Y128.v y'4) (y'4.1))))))))/\
 ((∃ x3:T,((x3 ∈ acc2)/\
 (((T.k x3):Int) = 1))) -> (∃ y3:Y128,((I (y3))/\
 ((((TV.v AV.nilslice) = (TV.v (Y128.v y3)))/\
 ((Rf (TV.l 2 0))/\
 (((TV.v (AV.int .i64 0)) = (TV.v (AV.int .i64 ((Y128.i y3:Nat):Int))))/\
 ((Rf [(AV.int .i64 (T.k t)),(AV.int .i64 (T.n t)),(AV.str (T.s t)),(AV.slice 4 (tcellL (T.l t)) Cap.any)])/\
 (State.Le (y3.1) σ)))))/\
 (∀ y'4:Y128,((R (y'4)) -> (Q (Y128.v y'4) (y'4.1))))))))))))))
 (∃ y0:Y128,((I (y0))/\
 ((((TV.v AV.nilslice) = (TV.v (Y128.v y0)))/\
 ((Rf (TV.l 2 0))/\
 (((TV.v (AV.int .i64 0)) = (TV.v (AV.int .i64 ((Y128.i y0:Nat):Int))))/\
 ((Rf [(AV.int .i64 (T.k t)),(AV.int .i64 (T.n t)),(AV.str (T.s t)),(AV.slice 4 (tcellL (T.l t)) Cap.any)])/\
 (State.Le (y0.1) σ)))))/\
 (∀ y'1:Y128,((R (y'1)) -> (Q (Y128.v y'1) (y'1.1))))))))):=by kernel_rfl
theorem vc128r (B:Nat) (w0:World) (G:Nat -> AV) (N:Nat) (t:T) (id n:Nat) (I R:Y128 -> Prop) (σ:State) (Q:AV -> State -> Prop):(bodyX [] (EV B w0 G) (H128 (EV B w0 G) N) (T128 t I R) annA N128 128 [.agg (tc t),.rslice id 0 n] σ Q) =
 ((bcase (((T.k t):Int) == 1)
 (∃ v0:AV,(∃ k1:Int,(∃ acc2:List T,(([(AV.rslice (id) 0 (n)),(AV.int .i64 (T.n t))] = [(v0),(AV.int .i64 (k1))])/\
 ((((((v0) = AV.nilslice)/\
 (∀ x3:T,((x3 ∈ acc2) -> (((T.k x3):Int) ≠ 1)))) \/ (∃ id3:Nat,(∃ n4:Nat,(∃ l5:List Int,(∃ g6:Bool,(((v0) = (AV.rslice (id3) 0 (n4)))/\
 (((0:Nat) < (n4))/\
 ((((n4):Nat) <= (List.length (acc2)))/\
 ((((List.length (l5)):Nat) = (n4))/\
 (((State.objs σ (id3)) = (AObj.cells (intsZ l5) 3 1 (g6)))/\
 (∃ x7:T,((x7 ∈ acc2)/\
 (((T.k x7):Int) = 1)))))))))))))/\
 (((List.length (acc2)):Nat) <= 100000))/\
 ((∃ a3:OE,(((State.objs σ (id)) = (AObj.cells (OE.cs a3) 3 1 (OE.g a3)))/\
 ((((0:Nat) = 0)/\
 (((((((n) + 1) * 8):Nat) <= 140737488355328)/\
 ((((n) + 1):Nat) <= 4611686018427387904))/\
 ((((n) * 1):Nat) <= (List.length (OE.cs a3)))))/\
 (∃ y4:Y128,((I (y4))/\
 ((((TV.v (AV.rslice (State.next σ) 0 ((n) + 1))) = (TV.v (Y128.v y4)))/\
 ((Rf (TV.l 2 0))/\
 (((TV.v (AV.int .i64 0)) = (TV.v (AV.int .i64 ((Y128.i y4:Nat):Int))))/\
 ((Rf [(AV.int .i64 (T.k t)),(AV.int .i64 (T.n t)),(AV.str (T.s t)),(AV.slice 4 (tcellL (T.l t)) Cap.any)])/\
 (State.Le (y4.1) (State.new (State.set σ (id) AObj.dead) (AObj.cells ((List.take ((n) * 1) (OE.cs a3)) ++ [(AV.int .i64 (T.n t))]) 3 1 true)))))))/\
 (∀ y'5:Y128,((R (y'5)) -> (Q (Y128.v y'5) (y'5.1))))))))))/\
 ((∃ x3:T,((x3 ∈ acc2)/\
 (((T.k x3):Int) = 1))) -> (∃ y3:Y128,((I (y3))/\
 ((((TV.v (AV.rslice (id) 0 (n))) = (TV.v (Y128.v y3)))/\
 ((Rf (TV.l 2 0))/\
 (((TV.v (AV.int .i64 0)) = (TV.v (AV.int .i64 ((Y128.i y3:Nat):Int))))/\
 ((Rf [(AV.int .i64 (T.k t)),(AV.int .i64 (T.n t)),(AV.str (T.s t)),(AV.slice 4 (tcellL (T.l t)) Cap.any)])/\
 (State.Le (y3.1) σ)))))/\
 (∀ y'4:Y128,((R (y'4)) -> (Q (Y128.v y'4) (y'4.1))))))))))))))
 (∃ y0:Y128,((I (y0))/\
 ((((TV.v (AV.rslice (id) 0 (n))) = (TV.v (Y128.v y0)))/\
 ((Rf (TV.l 2 0))/\
 (((TV.v (AV.int .i64 0)) = (TV.v (AV.int .i64 ((Y128.i y0:Nat):Int))))/\
 ((Rf [(AV.int .i64 (T.k t)),(AV.int .i64 (T.n t)),(AV.str (T.s t)),(AV.slice 4 (tcellL (T.l t)) Cap.any)])/\
 (State.Le (y0.1) σ)))))/\
 (∀ y'1:Y128,((R (y'1)) -> (Q (Y128.v y'1) (y'1.1))))))))):=by kernel_rfl
end Go.V
/- The reference's variables of terms. -/
set_option linter.unusedSimpArgs false
set_option linter.unusedSectionVars false
namespace Go.V
open Go Go.Proofs

theorem OutS.skip {acc:List T} {v:AV} {σ:State} {t:T} (h:OutS acc v σ) (hk:t.k = 1 -> ∃ x ∈ acc,x.k = 1):OutS (acc ++ [t]) v σ:=by
 rcases h with ⟨rfl,h1⟩ | ⟨id,n,l,g,rfl,h1,h2,h3,h4,x,hx,h5⟩
 ·refine .inl ⟨rfl,fun x hx => ?_⟩
  rcases List.mem_append.1 hx with hx | hx
  ·exact h1 x hx
  ·obtain rfl:x = t:=by simpa using hx
   intro e
   obtain ⟨y,hy,hy1⟩:=hk e
   exact h1 y hy hy1
 ·exact .inr ⟨id,n,l,g,rfl,h1,by rw [List.length_append]; omega,h3,h4,x,List.mem_append_left _ hx,h5⟩

section
variable {B:Nat} {w0:World} {G:Nat -> AV}

theorem c149_ok:ContractOk (EV B w0 G) 149 C149:=by
 rintro args σ Q ⟨v,k,acc,rfl,⟨hv,hb⟩,hQ1,hQ2⟩
 rcases hv with ⟨rfl,_⟩ | ⟨id,n,l,g,rfl,h1,h2,h3,h4,hx⟩
 ·exact bodyC_ok (EV_mixed B w0 G) H0y_ok (fun lp hl hc Q a σ kk => loopC_ok H0y_ok (EV_mixed B w0 G) 149 3 lp hc Q a σ kk) ((vc149n B w0 G k σ Q).mpr hQ1)
 refine bodyX_ok (cuts:=[]) (EV_mixed B w0 G) H0y_ok (fun lp hl _ Q a' σ' kk => ?_) ((vc149 B w0 G id n k σ Q).mpr ⟨⟨rfl,rfl,rfl,.refl _⟩,hQ1,hQ2 hx⟩)
 change lp ∈ fnParts Tryz.prog [] 149 at hl
 rw [fnParts_149] at hl
 simp only [List.mem_cons,List.not_mem_nil,or_false] at hl
 subst hl
 obtain ⟨hat,hR1,hR2⟩:=kk
 refine awp_loopS (ls149 id n k σ) (x0:=0) (fun i hI => ?_) (fun i hI e a' σ' hne kk => ?_) (Nat.zero_le _) hat
 ·have hi:i <= n:=hI
  show AWp _ _ _ _ _ (frm [(0,.v (.rslice id 0 n)),(1,.v (.int .i64 k)),(5,.v (.int .i64 (i:Int)))] []) σ
  refine wpX_ok (cuts:=[]) H0y_ok (EV_mixed B w0 G) (L:=fun _ _ _ _ => False) _ _ _ _ (fun p hp hc Q a σ k => k.elim) (by kernel_rfl) ((vc149l B w0 G id n k σ i).mpr (bcase_of (fun h => ?_) (fun h => .refl _)))
  have h:=of_decide_eq_true h
  have hk:i < l.length:=by omega
  have w1:IntKind.wrap .i64 ((i:Int) + 1) = ((i + 1:Nat):Int):=by rw [wr_small (by omega) (by omega)]; omega
  have hz:(intsZ l).getD i .undef = .int .i64 l[i]:=by unfold intsZ; rw [List.getD,List.getElem?_map,List.getElem?_eq_getElem hk]; rfl
  refine ⟨⟨intsZ l,g⟩,h4,⟨by omega,h⟩,⟨intsZ l,g⟩,h4,by rw [idx1]; show i < (intsZ l).length; rw [intsZ_len]; exact hk,l[i],by rw [idx1]; exact hz,bcase_of (fun _ => ⟨rfl,.refl _⟩) (fun _ => ⟨i + 1,⟨by show i + 1 <= n; omega,by show n - (i + 1) < n - i; omega⟩,rfl,rfl,by rw [w1],.refl _⟩)⟩
 ·cases e with
  | exit j =>
   match j,kk with
   | 0,kk =>
    have kk:atF a' [] [] (σ.Le σ'):=kk
    exact ⟨_,_,(atF_ok kk).1,(atF_ok kk).2,hR1⟩
  | ret =>
   have kk:atF a' [(4,.v (.bool true))] [] (σ.Le σ'):=kk
   exact ⟨_,_,(atF_ok kk).1,(atF_ok kk).2,hR2⟩
  | normal => exact absurd rfl hne
  | _ => exact kk.elim

theorem c128_ok:∀ N,ContractOk (EV B w0 G) 128 (C128 N)
 | 0 => by
  rintro args σ Q ⟨t,v,acc,rfl,⟨hN,_⟩,_⟩
  omega
 | N + 1 => by
  rintro args σ Q ⟨t,v,acc,rfl,⟨hN,hb,hS⟩,hQ⟩
  have hH:HOk1 (EV B w0 G) (H128 (EV B w0 G) N):=hnd_ok (EV_mixed B w0 G) (contracts_cons c149_ok (contracts_cons (c128_ok N) contracts_nil))
  have hb2:acc.length + 1 + (nodesTL t.l).length <= 100000:=by rw [nodesT_eq,List.length_cons] at hb; omega
  have hlen:=nodesTL_len t.l
  let I:Y128 -> Prop:=fun y => y.i <= t.l.length /\ OutS (acc ++ [t] ++ nodesTL (t.l.take y.i)) y.v y.σ
  let R:Y128 -> Prop:=fun y => OutS (acc ++ nodesT t) y.v y.σ
  have I0:∀ (v':AV) (σ':State),OutS (acc ++ [t]) v' σ' -> I ⟨σ',v',0⟩:=fun v' σ' h => ⟨Nat.zero_le _,by
   show OutS (acc ++ [t] ++ nodesTL (t.l.take 0)) v' σ'
   rw [List.take_zero,nodesTL,List.append_nil]; exact h⟩
  have loops:∀ lp ∈ fnParts Tryz.prog [] 128,∀ (Q:Post) (a':AAct) (σ:State),T128 t I R lp Q a' σ -> AWp (EV B w0 G) none (fnTmps Tryz.prog 128) lp Q a' σ:=by
   intro lp hl Q a' σ kk
   rw [fnParts_128] at hl
   simp only [List.mem_cons,List.not_mem_nil,or_false] at hl
   subst hl
   obtain ⟨y0,hI0,hat,hR⟩:=kk
   refine awp_loopS (ls128 t I) (x0:=y0) (fun y hI => ?_) (fun y hI e a' σ hne kk => ?_) hI0 hat
   ·obtain ⟨hi,hSy⟩:I y:=hI
    show AWp _ _ _ _ _ (frm [(1,.v y.v),(2,.l 2 0),(5,.v (.int .i64 (y.i:Int)))] [(2,tc t)]) y.σ
    refine wpX_ok (cuts:=[]) hH (EV_mixed B w0 G) (L:=fun _ _ _ _ => False) _ _ _ _ (fun p hp hc Q a σ k => k.elim) (by kernel_rfl) ((vc128l B w0 G N t I y).mpr (bcase_of (fun h => ?_) (fun h => ⟨fun h2 => ?_,rfl,.refl _⟩)))
    ·have h:=of_decide_eq_true h
     have hk:y.i < t.l.length:=by rw [tcellL_length] at h; omega
     have w1:IntKind.wrap .i64 ((y.i:Int) + 1) = ((y.i + 1:Nat):Int):=by rw [wr_small (by omega) (by omega)]; omega
     have hle:=nodesTL_take_le t.l (y.i + 1)
     rw [nodesTL_take hk,List.length_append] at hle
     refine ⟨⟨by omega,h⟩,t.l[y.i],by rw [Int.toNat_natCast]; exact tcellL_get hk,t.l[y.i],y.v,acc ++ [t] ++ nodesTL (t.l.take y.i),rfl,⟨?_,?_,hSy⟩,fun v' σ' hS' => ⟨⟨σ',v',y.i + 1⟩,⟨⟨hk,?_⟩,?_⟩,rfl,rfl,?_,rfl,.refl _⟩⟩
     ·have:=T.sizeOf_mem (List.getElem_mem hk); omega
     ·simp only [List.length_append,List.length_cons,List.length_nil]; omega
     ·show OutS (acc ++ [t] ++ nodesTL (t.l.take (y.i + 1))) v' σ'
      rw [nodesTL_take hk,<-List.append_assoc]; exact hS'
     ·show t.l.length - (y.i + 1) < t.l.length - y.i
      omega
     ·show TV.v (AV.int .i64 _) = TV.v (AV.int .i64 ((y.i + 1:Nat):Int))
      rw [w1]
    ·have h:=of_decide_eq_false h
     rw [tcellL_length] at h; omega
   ·obtain ⟨hi,hSy⟩:I y:=hI
    cases e with
    | exit j =>
     match j,kk with
     | 0,kk =>
      have hk:¬ y.i < t.l.length:=kk.1
      refine ⟨_,_,(atF_ok kk.2).1,(atF_ok kk.2).2,hR y ?_⟩
      rw [show y.i = t.l.length by omega,List.take_length,List.append_assoc] at hSy
      show OutS (acc ++ nodesT t) y.v y.σ
      rw [nodesT_eq]; exact hSy
    | normal => exact absurd rfl hne
    | _ => exact kk.elim
  rcases hS with ⟨rfl,h1⟩ | ⟨id,n,l,g,rfl,h1,h2,h3,h4,hx⟩
  ·refine bodyX_ok (cuts:=[]) (EV_mixed B w0 G) hH (fun lp hl _ Q a' σ kk => loops lp hl Q a' σ kk) ((vc128n B w0 G N t I R σ Q).mpr (bcase_of (fun hk => ?_) (fun hk => ?_)))
   ·have hk:t.k = 1:=by simpa using hk
    refine ⟨.nilslice,t.n,acc,rfl,⟨.inl ⟨rfl,h1⟩,by omega⟩,⟨⟨by omega,by omega⟩,⟨σ.new (.cells [.int .i64 t.n] 3 1 true),.rslice σ.next 0 1,0⟩,I0 _ _ ?_,⟨rfl,rfl,rfl,rfl,.refl _⟩,fun y' hy => hQ _ _ hy⟩,fun ⟨x,hx,hx1⟩ => absurd hx1 (h1 x hx)⟩
    exact .inr ⟨σ.next,1,[t.n],true,rfl,Nat.zero_lt_one,by simp,rfl,if_pos rfl,t,by simp,hk⟩
   ·have hk:t.k ≠ 1:=fun e => by rw [e] at hk; simp at hk
    exact ⟨⟨σ,.nilslice,0⟩,I0 _ _ (OutS.skip (.inl ⟨rfl,h1⟩) fun e => absurd e hk),⟨rfl,rfl,rfl,rfl,.refl _⟩,fun y' hy => hQ _ _ hy⟩
  ·have hold:OutS acc (.rslice id 0 n) σ:=.inr ⟨id,n,l,g,rfl,h1,h2,h3,h4,hx⟩
   have hl:(intsZ l).length = n:=by rw [intsZ_len]; exact h3
   refine bodyX_ok (cuts:=[]) (EV_mixed B w0 G) hH (fun lp hl _ Q a' σ kk => loops lp hl Q a' σ kk) ((vc128r B w0 G N t id n I R σ Q).mpr (bcase_of (fun hk => ?_) (fun hk => ?_)))
   ·have hk:t.k = 1:=by simpa using hk
    refine ⟨.rslice id 0 n,t.n,acc,rfl,⟨hold,by omega⟩,⟨⟨intsZ l,g⟩,h4,⟨rfl,⟨by omega,by omega⟩,by show n * 1 <= (intsZ l).length; omega⟩,⟨(σ.set id .dead).new (.cells ((intsZ l).take (n * 1) ++ [.int .i64 t.n]) 3 1 true),.rslice σ.next 0 (n + 1),0⟩,I0 _ _ ?_,⟨rfl,rfl,rfl,rfl,.refl _⟩,fun y' hy => hQ _ _ hy⟩,
     fun _ => ⟨⟨σ,.rslice id 0 n,0⟩,I0 _ _ (hold.skip fun _ => hx),⟨rfl,rfl,rfl,rfl,.refl _⟩,fun y' hy => hQ _ _ hy⟩⟩
    refine .inr ⟨σ.next,n + 1,l ++ [t.n],true,rfl,by omega,by rw [List.length_append]; simp; omega,by rw [List.length_append,h3]; rfl,?_,t,by simp,hk⟩
    have e:(intsZ l).take (n * 1) ++ [AV.int .i64 t.n] = intsZ (l ++ [t.n]):=by
     rw [Nat.mul_one,<-hl,List.take_length]
     unfold intsZ; rw [List.map_append]; rfl
    rw [<-e]
    exact if_pos rfl
   ·have hk:t.k ≠ 1:=fun e => by rw [e] at hk; simp at hk
    exact ⟨⟨σ,.rslice id 0 n,0⟩,I0 _ _ (hold.skip fun e => absurd e hk),⟨rfl,rfl,rfl,rfl,.refl _⟩,fun y' hy => hQ _ _ hy⟩
end
end Go.V
