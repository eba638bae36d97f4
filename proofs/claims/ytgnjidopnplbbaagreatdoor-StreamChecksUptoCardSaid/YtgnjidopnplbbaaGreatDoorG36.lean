import Derived.Test.YtgnjidopnplbbaaGreatDoorG35
/- Conditions: Clone of lists; small; the items of lists are ground. -/
set_option maxRecDepth 1000000
set_option linter.unusedVariables false
namespace Go.V
open Go Go.Proofs

def slV (l:List T):AV:=.slice 4 (tcellL l) .any
def lsV (ls:List (List T)):List AV:=ls.map slV
/- Clone -/
theorem vc60a (B:Nat) (w0:World) (G:Nat -> AV) (σ:State) (Q:AV -> State -> Prop):(bodyC (EV B w0 G) (H0 (EV B w0 G)) (fun _ _ _ _ => False) annA noHint 60 [.nilslice] σ Q) =
 ((Q AV.nilslice σ)):=by kernel_rfl
def N60:FnHint:=hAt [(3,2,Hint.s)]
theorem vc60b (B:Nat) (w0:World) (G:Nat -> AV) (σ:State) (ls:List (List T)) (Q:AV -> State -> Prop):(bodyC (EV B w0 G) (H0 (EV B w0 G)) (fun _ _ _ _ => False) annA N60 60 [.slice 1 (lsV ls) .nn] σ Q) =
 ((bcase (List.isEmpty (lsV ls))
 (Q (AV.slice 1 [] Cap.full) σ)
 ((((((0 + (List.length (lsV ls))) * 24):Nat) <= 140737488355328)/\
 (((0 + (List.length (lsV ls))):Nat) <= 4611686018427387904))/\
 (Q (AV.rslice (State.next σ) 0 (List.length ([] ++ (lsV ls)))) (State.new σ (AObj.cells (flat ([] ++ (lsV ls))) 23 1 true)))))):=by kernel_rfl
/- small -/
def hSl:Hint:=Hint.as (fun l:List T => .vptr [slV l])
def sumL (ls:List (List T)):Nat:=(ls.map List.length).sum
structure Y17 where
 i:Nat
 n:Nat
def ls17 (ls:List (List T)):LS Y17 where
 F y:=[(0,.v (.slice 1 (lsV ls) .any)),(3,.v (.int .i64 (y.n:Int))),(6,.v (.slice 1 (lsV ls) .any)),(7,.v (.int .i64 ((lsV ls).length:Int))),(8,.v (.int .i64 (y.i:Int)))]
 FL _:=[]
 S y:=noObj
 I y:=y.i <= ls.length /\ y.n = sumL (ls.take y.i)
 μ y:=ls.length - y.i
 Ex y e a σ:=match e with
  | .exit 0 => ¬ (y.i < ls.length) /\ atF a [(0,.v (.slice 1 (lsV ls) .any)),(3,.v (.int .i64 (y.n:Int)))] [] (noObj.Le σ)
  | _ => False
def N17:FnHint:=hAt [(4,0,hSl),(7,5,Hint.s)]
theorem fnParts_17:fnParts Tryz.prog [] 17 = [.loop (bodyOf (fnPart Tryz.prog [] 17 0))]:=by kernel_rfl
theorem vc17l (B:Nat) (w0:World) (G:Nat -> AV) (ls:List (List T)) (y:Y17):(wpX [] (EV B w0 G) (H0 (EV B w0 G)) (fun _ _ _ _ => False) (annA 17) N17 (bodyOf (fnPart Tryz.prog [] 17 0)) ((ls17 ls).post y) (frm [(0,.v (.slice 1 (lsV ls) .any)),(3,.v (.int .i64 (y.n:Int))),(6,.v (.slice 1 (lsV ls) .any)),(7,.v (.int .i64 ((lsV ls).length:Int))),(8,.v (.int .i64 (y.i:Int)))] []) noObj) =
 ((bcase (decide ((((Y17.i y:Nat):Int):Int) < (((List.length (lsV ls)):Nat):Int)))
 ((((0:Int) <= ((Y17.i y:Nat):Int))/\
 ((((Y17.i y:Nat):Int):Int) < (((List.length (lsV ls)):Nat):Int)))/\
 (∃ x0:List T,(((AV.vptr (AV.cells (List.getD (lsV ls) (Int.toNat (↑(Y17.i y):Int)) AV.undef))) = (AV.vptr [(AV.slice 4 (tcellL x0) Cap.any)]))/\
 (∃ x'1:Y17,(((((Y17.i x'1:Nat) <= (List.length (ls)))/\
 ((Y17.n x'1:Nat) = (sumL (List.take (Y17.i x'1) ls))))/\
 (((LS.μ (ls17 ls) x'1):Nat) < (LS.μ (ls17 ls) y)))/\
 ((Rf (TV.v (AV.slice 1 (lsV ls) Cap.any)))/\
 (((TV.v (AV.int .i64 (IntKind.wrap .i64 (((Y17.n y:Nat):Int) + (((List.length (tcellL x0)):Nat):Int))))) = (TV.v (AV.int .i64 ((Y17.n x'1:Nat):Int))))/\
 ((Rf (TV.v (AV.slice 1 (lsV ls) Cap.any)))/\
 ((Rf (TV.v (AV.int .i64 (((List.length (lsV ls)):Nat):Int))))/\
 (((TV.v (AV.int .i64 (IntKind.wrap .i64 (((Y17.i y:Nat):Int) + 1)))) = (TV.v (AV.int .i64 ((Y17.i x'1:Nat):Int))))/\
 (State.Le ((ls17 ls).3 x'1) (noObj))))))))))))
 ((((Y17.i y:Nat) < (List.length (ls))) -> False)/\
 ((Rf (TV.v (AV.slice 1 (lsV ls) Cap.any)))/\
 ((Rf (TV.v (AV.int .i64 ((Y17.n y:Nat):Int))))/\
 (State.Le (noObj) (noObj))))))):=by kernel_rfl
def T17 (ls:List (List T)):LHand:=fun _ Q a σ => atF a ((ls17 ls).F ⟨0,0⟩) [] (noObj.Le σ) /\ ∀ n:Nat,n = sumL ls -> Q (.exit 0) (frm [(0,.v (.slice 1 (lsV ls) .any)),(3,.v (.int .i64 (n:Int)))] []) noObj
theorem vc17 (B:Nat) (w0:World) (G:Nat -> AV) (ls:List (List T)) (Q:AV -> State -> Prop):(bodyX [] (EV B w0 G) (H0 (EV B w0 G)) (T17 ls) annA N17 17 [.slice 1 (lsV ls) .any] noObj Q) =
 ((((Rf (TV.v (AV.slice 1 (lsV ls) Cap.any)))/\
 ((Rf (TV.v (AV.int .i64 0)))/\
 ((Rf (TV.v (AV.slice 1 (lsV ls) Cap.any)))/\
 ((Rf (TV.v (AV.int .i64 (((List.length (lsV ls)):Nat):Int))))/\
 ((Rf (TV.v (AV.int .i64 0)))/\
 (State.Le (noObj) (noObj)))))))/\
 (∀ n0:Nat,((((n0):Nat) = (sumL ls)) -> (bcase (decide (((((List.length (lsV ls)):Nat):Int):Int) <= 20))
 (Q (AV.bool (decide ((((n0:Nat):Int):Int) <= 1000))) (noObj))
 (Q (AV.bool false) (noObj))))))):=by kernel_rfl
/- ground -/
inductive KR where
 | ls | out | bc | bo | ac | ao | oc | ov | fc | cl
 deriving DecidableEq
structure Y59 where
 σ:State
 i:Nat
def hSlAt:Hint:=Hint.ofAs (fun x:OE => AObj.cells x.cs 23 1 x.g) (fun l:List T => slV l)
def H59 (E:Env):Hand:=hnd E annA noHints [(103,C103)]
/- the items of one list -/
def ls59i (id n i:Nat) (l:List T) (I:Y59 -> Prop):LS Y59 where
 F y:=[(9,.v (.rslice id 0 n)),(10,.v (.int .i64 (n:Int))),(11,.v (.int .i64 (i:Int))),(15,.v (slV l)),(16,.v (.int .i64 ((tcellL l).length:Int))),(17,.v (.int .i64 (y.i:Int)))]
 FL _:=[]
 S y:=y.σ
 I:=I
 μ y:=l.length - y.i
 Ex y e a σ:=match e with
  | .exit 2 => ¬ (y.i < l.length) /\ atF a [(9,.v (.rslice id 0 n)),(10,.v (.int .i64 (n:Int))),(11,.v (.int .i64 (i:Int)))] [] (y.σ.Le σ)
  | .ret => (∃ x ∈ l,grT x = false) /\ atF a [(2,.v (.int .i64 3))] [] (y.σ.untok.Le σ)
  | _ => False
def N59:FnHint:=hAt [(3,1,hSlAt),(6,0,hT),(3,0,hEl 23 1)]
theorem fnParts_59:fnParts Tryz.prog [] 59 = [.loop (bodyOf (fnPart Tryz.prog [] 59 0))]:=by kernel_rfl
theorem subParts_59:subParts [] (fnPart Tryz.prog [] 59 0) = [.loop (bodyOf (subPart [] (fnPart Tryz.prog [] 59 0) 0))]:=by kernel_rfl
theorem vc59i (B:Nat) (w0:World) (G:Nat -> AV) (id n i:Nat) (l:List T) (I:Y59 -> Prop) (y:Y59):(wpX [] (EV B w0 G) (H59 (EV B w0 G)) (fun _ _ _ _ => False) (annA 59) N59 (bodyOf (subPart [] (fnPart Tryz.prog [] 59 0) 0)) ((ls59i id n i l I).post y) (frm [(9,.v (.rslice id 0 n)),(10,.v (.int .i64 (n:Int))),(11,.v (.int .i64 (i:Int))),(15,.v (slV l)),(16,.v (.int .i64 ((tcellL l).length:Int))),(17,.v (.int .i64 (y.i:Int)))] []) y.σ) =
 ((bcase (decide ((((Y59.i y:Nat):Int):Int) < (((List.length (tcellL l)):Nat):Int)))
 ((((0:Int) <= ((Y59.i y:Nat):Int))/\
 ((((Y59.i y:Nat):Int):Int) < (((List.length (tcellL l)):Nat):Int)))/\
 (∃ x0:T,(((AV.vptr (AV.cells (List.getD (tcellL l) (Int.toNat (↑(Y59.i y):Int)) AV.undef))) = (AV.vptr [(AV.int .i64 (T.k x0)),(AV.int .i64 (T.n x0)),(AV.str (T.s x0)),(AV.slice 4 (tcellL (T.l x0)) Cap.any)]))/\
 (∃ t1:T,(([(AV.agg [(AV.int .i64 (T.k x0)),(AV.int .i64 (T.n x0)),(AV.str (T.s x0)),(AV.slice 4 (tcellL (T.l x0)) Cap.any)])] = [(AV.agg [(AV.int .i64 (T.k t1)),(AV.int .i64 (T.n t1)),(AV.str (T.s t1)),(AV.slice 4 (tcellL (T.l t1)) Cap.any)])])/\
 (bcase (((chkT t1):Int) != 0)
 ((∃ x2:T,((x2 ∈ l)/\
 ((grT x2) = false)))/\
 ((Rf (TV.v (AV.int .i64 3)))/\
 (State.Le (State.untok (y.1)) (State.untok (y.1)))))
 (bcase (!(grT t1))
 ((∃ x2:T,((x2 ∈ l)/\
 ((grT x2) = false)))/\
 ((Rf (TV.v (AV.int .i64 3)))/\
 (State.Le (State.untok (y.1)) (State.untok (y.1)))))
 (∃ x'2:Y59,(((I (x'2))/\
 (((LS.μ (ls59i id n i l I) x'2):Nat) < (LS.μ (ls59i id n i l I) y)))/\
 ((Rf (TV.v (AV.rslice (id) 0 (n))))/\
 ((Rf (TV.v (AV.int .i64 ((n:Nat):Int))))/\
 ((Rf (TV.v (AV.int .i64 ((i:Nat):Int))))/\
 ((Rf (TV.v (AV.slice 4 (tcellL l) Cap.any)))/\
 ((Rf (TV.v (AV.int .i64 (((List.length (tcellL l)):Nat):Int))))/\
 (((TV.v (AV.int .i64 (IntKind.wrap .i64 (((Y59.i y:Nat):Int) + 1)))) = (TV.v (AV.int .i64 ((Y59.i x'2:Nat):Int))))/\
 (State.Le ((ls59i id n i l I).3 x'2) (State.untok (y.1))))))))))))))))))
 ((((Y59.i y:Nat) < (List.length (l))) -> False)/\
 ((Rf (TV.v (AV.rslice (id) 0 (n))))/\
 ((Rf (TV.v (AV.int .i64 ((n:Nat):Int))))/\
 ((Rf (TV.v (AV.int .i64 ((i:Nat):Int))))/\
 (State.Le (y.1) (y.1)))))))):=by kernel_rfl
def ls59 (id n:Nat) (ls:List (List T)) (c:Heap KR) (I:Y59 -> Prop):LS Y59 where
 F y:=[(9,.v (.rslice id 0 n)),(10,.v (.int .i64 (n:Int))),(11,.v (.int .i64 (y.i:Int)))]
 FL _:=[]
 S y:=y.σ
 I:=I
 μ y:=ls.length - y.i
 Ex y e a σ:=match e with
  | .exit 0 => ¬ (y.i < ls.length) /\ atF a [] [] (y.σ.Le σ)
  | .ret => (∃ l ∈ ls,∃ x ∈ l,grT x = false) /\ ∃ σ1:State,At c σ1 /\ atF a [(2,.v (.int .i64 3))] [] (σ1.Le σ)
  | _ => False
def T59i (id n:Nat) (P:Nat -> List T -> State -> Prop) (c:Heap KR):LHand:=fun _ Q a σ => ∃ (i:Nat) (l:List T) (σ0:State),P i l σ0 /\
 atF a ((ls59i id n i l (fun _ => True)).F ⟨σ0,0⟩) [] (σ0.Le σ) /\
 ((∀ σ':State,At c σ' -> (∀ x ∈ l,grT x = true) -> Q (.exit 2) (frm [(9,.v (.rslice id 0 n)),(10,.v (.int .i64 (n:Int))),(11,.v (.int .i64 (i:Int)))] []) σ') /\
  (∀ σ':State,At c σ' -> (∃ x ∈ l,grT x = false) -> Q .ret (frm [(2,.v (.int .i64 3))] []) σ'))
theorem vc59l (B:Nat) (w0:World) (G:Nat -> AV) (id n:Nat) (ls:List (List T)) (c:Heap KR) (P:Nat -> List T -> State -> Prop) (I:Y59 -> Prop) (y:Y59):(wpX [] (EV B w0 G) (H59 (EV B w0 G)) (T59i id n P c) (annA 59) N59 (bodyOf (fnPart Tryz.prog [] 59 0)) ((ls59 id n ls c I).post y) (frm [(9,.v (.rslice id 0 n)),(10,.v (.int .i64 (n:Int))),(11,.v (.int .i64 (y.i:Int)))] []) y.σ) =
 ((bcase (decide ((((Y59.i y:Nat):Int):Int) < ((n:Nat):Int)))
 (∃ a0:OE,(((State.objs (y.1) (id)) = (AObj.cells (OE.cs a0) 23 1 (OE.g a0)))/\
 ((((0:Int) <= ((Y59.i y:Nat):Int))/\
 ((((Y59.i y:Nat):Int):Int) < ((n:Nat):Int)))/\
 (∃ a1:OE,(((State.objs (y.1) (id)) = (AObj.cells (OE.cs a1) 23 1 (OE.g a1)))/\
 (((((0 + (Int.toNat ((Y59.i y:Nat):Int))) * 1):Nat) < (List.length (OE.cs a1)))/\
 (∃ x2:List T,(((List.getD (OE.cs a1) ((0 + Int.toNat (↑(Y59.i y):Int)) * 1) AV.undef) = (AV.slice 4 (tcellL x2) Cap.any))/\
 (∃ i3:Nat,(∃ l4:List T,(∃ σ05:State,((P (i3) (l4) σ05)/\
 (((Rf (TV.v (AV.rslice (id) 0 (n))))/\
 ((Rf (TV.v (AV.int .i64 ((n:Nat):Int))))/\
 (((TV.v (AV.int .i64 ((Y59.i y:Nat):Int))) = (TV.v (AV.int .i64 ((i3:Nat):Int))))/\
 (((TV.v (AV.slice 4 (tcellL x2) Cap.any)) = (TV.v (AV.slice 4 (tcellL l4) Cap.any)))/\
 (((TV.v (AV.int .i64 (((List.length (tcellL x2)):Nat):Int))) = (TV.v (AV.int .i64 (((List.length (tcellL l4)):Nat):Int))))/\
 ((Rf (TV.v (AV.int .i64 0)))/\
 (State.Le σ05 (y.1))))))))/\
 ((∀ σ'6:State,((At c σ'6) -> ((∀ x7:T,((x7 ∈ l4) -> ((grT x7) = true))) -> (∃ x'7:Y59,(((I (x'7))/\
 (((LS.μ (ls59 id n ls c I) x'7):Nat) < (LS.μ (ls59 id n ls c I) y)))/\
 ((Rf (TV.v (AV.rslice (id) 0 (n))))/\
 ((Rf (TV.v (AV.int .i64 ((n:Nat):Int))))/\
 (((TV.v (AV.int .i64 (IntKind.wrap .i64 (((i3:Nat):Int) + 1)))) = (TV.v (AV.int .i64 ((Y59.i x'7:Nat):Int))))/\
 (State.Le ((ls59 id n ls c I).3 x'7) σ'6)))))))))/\
 (∀ σ'6:State,((At c σ'6) -> ((∃ x7:T,((x7 ∈ l4)/\
 ((grT x7) = false))) -> ((∃ l7:List T,((l7 ∈ ls)/\
 (∃ x8:T,((x8 ∈ l7)/\
 ((grT x8) = false)))))/\
 (∃ σ17:State,((At c σ17)/\
 ((Rf (TV.v (AV.int .i64 3)))/\
 (State.Le σ17 σ'6))))))))))))))))))))))
 ((((Y59.i y:Nat) < (List.length (ls))) -> False)/\
 (State.Le (y.1) (y.1))))):=by kernel_rfl
def T59 (id n:Nat) (ls:List (List T)) (c:Heap KR) (I:Y59 -> Prop):LHand:=fun _ Q a σ => ∃ y:Y59,I y /\ atF a ((ls59 id n ls c I).F y) [] (y.σ.Le σ) /\
 ((∀ σ':State,At c σ' -> (∀ l ∈ ls,∀ x ∈ l,grT x = true) -> Q (.exit 0) (frm [] []) σ') /\ (∀ σ':State,At c σ' -> (∃ l ∈ ls,∃ x ∈ l,grT x = false) -> Q .ret (frm [(2,.v (.int .i64 3))] []) σ'))
theorem vc59 (B:Nat) (w0:World) (G:Nat -> AV) (id n:Nat) (ls:List (List T)) (c:Heap KR) (I:Y59 -> Prop) (σ:State) (Q:AV -> State -> Prop):(bodyX [] (EV B w0 G) (H59 (EV B w0 G)) (T59 id n ls c I) annA N59 59 [.rslice id 0 n] σ Q) =
 ((∃ y0:Y59,((I (y0))/\
 (((Rf (TV.v (AV.rslice (id) 0 (n))))/\
 ((Rf (TV.v (AV.int .i64 ((n:Nat):Int))))/\
 (((TV.v (AV.int .i64 0)) = (TV.v (AV.int .i64 ((Y59.i y0:Nat):Int))))/\
 (State.Le (y0.1) σ))))/\
 ((∀ σ'1:State,((At c σ'1) -> ((∀ l2:List T,((l2 ∈ ls) -> (∀ x3:T,((x3 ∈ l2) -> ((grT x3) = true))))) -> (Q (AV.int .i64 0) σ'1))))/\
 (∀ σ'1:State,((At c σ'1) -> ((∃ l2:List T,((l2 ∈ ls)/\
 (∃ x3:T,((x3 ∈ l2)/\
 ((grT x3) = false))))) -> (Q (AV.int .i64 3) σ'1))))))))):=by kernel_rfl
end Go.V
/- Clone of lists; small; the items of lists are ground. -/
set_option linter.unusedSimpArgs false
set_option linter.unusedSectionVars false
namespace Go.V
open Go Go.Proofs

theorem lsV_len (ls:List (List T)):(lsV ls).length = ls.length:=by unfold lsV; simp
theorem lsV_get {ls:List (List T)} {i:Nat} (h:i < ls.length):(lsV ls).getD i .undef = slV ls[i]:=by
 unfold lsV
 rw [List.getD_eq_getElem?_getD,List.getElem?_map,List.getElem?_eq_getElem h]; rfl
theorem lsV_flat:∀ ls:List (List T),flat (lsV ls) = lsV ls
 | [] => rfl
 | x :: ls => by
  show flat (slV x :: lsV ls) = _
  rw [flat_cons,lsV_flat ls]; rfl
theorem slV_noId (l:List T):NoId (slV l):=slT_noId l
theorem lsV_noId (ls:List (List T)):NoId (.slice 1 (lsV ls) .any):=.slice (by simp) fun y hy => by
 rw [lsV_flat] at hy
 unfold lsV at hy
 obtain ⟨x,_,rfl⟩:=List.mem_map.1 hy
 exact slV_noId x
theorem sumL_take {ls:List (List T)} {i:Nat} (h:i < ls.length):sumL (ls.take (i + 1)) = sumL (ls.take i) + ls[i].length:=by
 unfold sumL
 rw [List.take_succ_eq_append_getElem h,List.map_append,List.sum_append]
 simp
theorem sumL_take_le (ls:List (List T)) (i:Nat):sumL (ls.take i) <= sumL ls:=by
 have:sumL ls = sumL (ls.take i) + sumL (ls.drop i):=by
  unfold sumL
  rw [<-List.sum_append,<-List.map_append,List.take_append_drop]
 omega
theorem sumL_mem {ls:List (List T)} {l:List T} (h:l ∈ ls):l.length <= sumL ls:=by
 induction ls with
 | nil => cases h
 | cons x ls ih =>
  have e:sumL (x :: ls) = x.length + sumL ls:=by unfold sumL; simp
  rcases List.mem_cons.1 h with rfl | h
  ·omega
  ·have:=ih h; omega

theorem grT_chk {x:T} (h:chkT x ≠ 0):grT x = false:=by
 unfold grT; rw [decide_eq_false h]; rfl
theorem ACalls.any {E:Env} {f sz:Nat} {xs:List AV} {Q:AV -> State -> Prop} {σ:State} (h1:xs = [] -> ACalls E f [.nilslice] σ Q) (h2:ACalls E f [.slice sz xs .nn] σ Q):ACalls E f [.slice sz xs .any] σ Q :=
 ⟨fun g w vs hG hS hv => by
  obtain ⟨u,us,he,hu,hus⟩:=hv.cons_inv
  rcases hu.slice_inv with ⟨a,cap,ws,rfl,hv⟩ | ⟨rfl,_,rfl⟩
  ·exact h2.run g w _ hG hS (by rw [he]; exact .cons (SliceV.rv ⟨hv.hsz,hv.hr,hv.hsp,hv.hF,hv.h1,hv.hcap,trivial⟩) hus)
  ·exact (h1 rfl).run g w _ hG hS (by rw [he]; exact .cons .nilslice hus)⟩

def C60:Contract:=fun args σ K => ∃ ls:List (List T),args = [.slice 1 (lsV ls) .any] /\ ls.length <= 1000000 /\
 ((ls = [] -> K .nilslice σ) /\ (ls = [] -> K (.slice 1 [] .full) σ) /\ (ls ≠ [] -> K (.rslice σ.next 0 ls.length) (σ.new (.cells (lsV ls) 23 1 true))))
def smallB (ls:List (List T)):Bool:=decide ((ls.length:Int) <= 20) && decide ((sumL ls:Int) <= 1000)
def C17:Contract:=fun args σ K => ∃ ls:List (List T),args = [.slice 1 (lsV ls) .any] /\ (sumL ls <= 1099511627776 /\ ls.length <= 1099511627776) /\ K (.bool (smallB ls)) σ.untok
def NoTok (c:Heap KR):Prop:=∀ r id o,c r = some (id,o) -> isTok o = false
def C59:Contract:=fun args σ K => ∃ (id n:Nat) (g:Bool) (ls:List (List T)) (c:Heap KR),args = [.rslice id 0 n] /\
 (At c σ /\ NoTok c /\ c .cl = some (id,.cells (lsV ls) 23 1 g) /\ ls.length = n /\ n <= 1000000 /\ ∀ l ∈ ls,l.length <= 1099511627776) /\
 ∀ σ':State,At c σ' -> ((∀ l ∈ ls,∀ x ∈ l,grT x = true) -> K (.int .i64 0) σ') /\ ((∃ l ∈ ls,∃ x ∈ l,grT x = false) -> K (.int .i64 3) σ')

section
variable {B:Nat} {w0:World} {G:Nat -> AV}

theorem c60_ok:ContractOk (EV B w0 G) 60 C60:=by
 rintro args σ Q ⟨ls,rfl,hb,h1,h2,h3⟩
 refine .any (fun e => ?_) ?_
 ·have e:ls = []:=by cases ls with | nil => rfl | cons x l => cases e
  exact bodyC_ok (EV_mixed B w0 G) H0y_ok (fun l hl _ Q a σ k => k.elim) ((vc60a B w0 G σ Q).mpr (h1 e))
 ·refine bodyC_ok (EV_mixed B w0 G) H0y_ok (fun l hl _ Q a σ k => k.elim) ((vc60b B w0 G σ ls Q).mpr (bcase_of (fun e => ?_) (fun e => ⟨⟨by rw [lsV_len]; omega,by rw [lsV_len]; omega⟩,?_⟩)))
  ·refine h2 ?_
   cases ls with | nil => rfl | cons x l => cases e
  ·rw [List.nil_append,lsV_len,lsV_flat]
   exact h3 fun h => by subst h; cases e

variable (hG:∀ i,NoId (G i))
include hG
theorem c17_ok:ContractOk (EV B w0 G) 17 C17:=by
 rintro args σ Q ⟨ls,rfl,⟨hb1,hb2⟩,hQ⟩
 refine pure_of hG (fun y hy => ?_) (.bool _) (fun Q hQ => ?_) hQ
 ·simp only [List.mem_cons,List.not_mem_nil,or_false] at hy
  subst hy; exact lsV_noId ls
 refine bodyX_ok (cuts:=[]) (EV_mixed B w0 G) H0y_ok (fun lp hl _ Q a' σ kk => ?_) ((vc17 B w0 G ls Q).mpr ⟨⟨rfl,rfl,rfl,rfl,rfl,.refl _⟩,fun n hn => bcase_of (fun h => ?_) (fun h => ?_)⟩)
 ·change lp ∈ fnParts Tryz.prog [] 17 at hl
  rw [fnParts_17] at hl
  simp only [List.mem_cons,List.not_mem_nil,or_false] at hl
  subst hl
  obtain ⟨hat,hR⟩:=kk
  refine awp_loopS (ls17 ls) (x0:=⟨0,0⟩) (fun y hI => ?_) (fun y hI e a' σ hne kk => ?_) ⟨Nat.zero_le _,rfl⟩ hat
  ·obtain ⟨hi,hn⟩:y.i <= ls.length /\ y.n = sumL (ls.take y.i):=hI
   show AWp _ _ _ _ _ (frm [(0,.v (.slice 1 (lsV ls) .any)),(3,.v (.int .i64 (y.n:Int))),(6,.v (.slice 1 (lsV ls) .any)),(7,.v (.int .i64 ((lsV ls).length:Int))),(8,.v (.int .i64 (y.i:Int)))] []) noObj
   refine wpX_ok (cuts:=[]) H0y_ok (EV_mixed B w0 G) (L:=fun _ _ _ _ => False) _ _ _ _ (fun p hp hc Q a σ k => k.elim) (by kernel_rfl) ((vc17l B w0 G ls y).mpr (bcase_of (fun h => ?_) (fun h => ⟨fun h2 => ?_,rfl,rfl,.refl _⟩)))
   ·have h:=of_decide_eq_true h
    have hk:y.i < ls.length:=by rw [lsV_len] at h; omega
    have hs:=sumL_take hk
    have hs2:=sumL_take_le ls (y.i + 1)
    have w1:IntKind.wrap .i64 ((y.i:Int) + 1) = ((y.i + 1:Nat):Int):=by rw [wr_small (by omega) (by omega)]; omega
    have w2:IntKind.wrap .i64 ((y.n:Int) + (ls[y.i].length:Int)) = ((y.n + ls[y.i].length:Nat):Int):=by rw [wr_small (by omega) (by omega)]; omega
    refine ⟨⟨by omega,h⟩,ls[y.i],by rw [Int.toNat_natCast,lsV_get hk]; rfl,⟨y.i + 1,y.n + ls[y.i].length⟩,⟨⟨hk,by rw [hs]; show y.n + _ = _; omega⟩,?_⟩,rfl,?_,rfl,rfl,?_,.refl _⟩
    ·show ls.length - (y.i + 1) < ls.length - y.i
     omega
    ·rw [tcellL_length,w2]
    ·rw [w1]
   ·have h:=of_decide_eq_false h
    rw [lsV_len] at h; omega
  ·obtain ⟨hi,hn⟩:y.i <= ls.length /\ y.n = sumL (ls.take y.i):=hI
   cases e with
   | exit j =>
    match j,kk with
    | 0,kk =>
     have hk:¬ y.i < ls.length:=kk.1
     rw [show y.i = ls.length by omega,List.take_length] at hn
     exact ⟨_,_,(atF_ok kk.2).1,(atF_ok kk.2).2,hR _ hn⟩
   | normal => exact absurd rfl hne
   | _ => exact kk.elim
 ·subst hn
  have h:=of_decide_eq_true h
  rw [lsV_len] at h
  unfold smallB at hQ
  rw [decide_eq_true h] at hQ
  exact hQ _
 ·subst hn
  have h:=of_decide_eq_false h
  rw [lsV_len] at h
  unfold smallB at hQ
  rw [decide_eq_false h] at hQ
  exact hQ _

theorem c59_ok:ContractOk (EV B w0 G) 59 C59:=by
 rintro args σ Q ⟨id,n,g,ls,c,rfl,⟨hat,hnt,hcl,hn,hb,hbl⟩,hQ⟩
 subst hn
 have hH:HOk1 (EV B w0 G) (H59 (EV B w0 G)):=hnd_ok (EV_mixed B w0 G) (contracts_cons (c103_ok hG) contracts_nil)
 -- the outer loop's invariant
 let I:Y59 -> Prop:=fun y => y.i <= ls.length /\ At c y.σ /\ ∀ l ∈ ls.take y.i,∀ x ∈ l,grT x = true
 refine bodyX_ok (cuts:=[]) (EV_mixed B w0 G) hH (fun lp hl _ Q a' σ kk => ?_) ((vc59 B w0 G id ls.length ls c I σ Q).mpr ⟨⟨σ,0⟩,⟨Nat.zero_le _,hat,fun l hl => by simp at hl⟩,⟨rfl,rfl,rfl,.refl _⟩,fun σ' h1 h2 => (hQ σ' h1).1 h2,fun σ' h1 h2 => (hQ σ' h1).2 h2⟩)
 change lp ∈ fnParts Tryz.prog [] 59 at hl
 rw [fnParts_59] at hl
 simp only [List.mem_cons,List.not_mem_nil,or_false] at hl
 subst hl
 obtain ⟨y0,hI0,hat0,hR1,hR2⟩:=kk
 refine awp_loopS (ls59 id ls.length ls c I) (x0:=y0) (fun y hI => ?_) (fun y hI e a' σ hne kk => ?_) hI0 hat0
 ·obtain ⟨hi,hy,hgr⟩:y.i <= ls.length /\ At c y.σ /\ ∀ l ∈ ls.take y.i,∀ x ∈ l,grT x = true:=hI
  show AWp _ _ _ _ _ (frm [(9,.v (.rslice id 0 ls.length)),(10,.v (.int .i64 (ls.length:Int))),(11,.v (.int .i64 (y.i:Int)))] []) y.σ
  refine wpX_ok (cuts:=[]) hH (EV_mixed B w0 G) _ _ _ _ (fun p hp hc Q a σ k => ?_) (by kernel_rfl) ((vc59l B w0 G id ls.length ls c (fun i l σ0 => i = y.i /\ ls[y.i]? = some l /\ At c σ0) I y).mpr (bcase_of (fun h => ?_) (fun h => ⟨fun h2 => ?_,.refl _⟩)))
  ·-- the items of one list
   have hp:p ∈ subParts [] (fnPart Tryz.prog [] 59 0):=hp
   rw [subParts_59] at hp
   simp only [List.mem_cons,List.not_mem_nil,or_false] at hp
   subst hp
   obtain ⟨i,l,σ0,⟨rfl,hl,hc0⟩,hat1,hE1,hE2⟩:=k
   have hlen:l.length <= 1099511627776:=hbl l (List.mem_of_getElem? hl)
   refine awp_loopS (ls59i id ls.length y.i l (fun z => z.i <= l.length /\ At c z.σ /\ ∀ x ∈ l.take z.i,grT x = true)) (x0:=⟨σ0,0⟩) (fun z hI => ?_) (fun z hI e a' σ hne kk => ?_) ⟨Nat.zero_le _,hc0,fun x hx => by simp at hx⟩ hat1
   ·obtain ⟨hj,hz,hg⟩:z.i <= l.length /\ At c z.σ /\ ∀ x ∈ l.take z.i,grT x = true:=hI
    show AWp _ _ _ _ _ (frm [(9,.v (.rslice id 0 ls.length)),(10,.v (.int .i64 (ls.length:Int))),(11,.v (.int .i64 (y.i:Int))),(15,.v (slV l)),(16,.v (.int .i64 ((tcellL l).length:Int))),(17,.v (.int .i64 (z.i:Int)))] []) z.σ
    refine wpX_ok (cuts:=[]) hH (EV_mixed B w0 G) (L:=fun _ _ _ _ => False) _ _ _ _ (fun p hp hc Q a σ k => k.elim) (by kernel_rfl) ((vc59i B w0 G id ls.length y.i l _ z).mpr (bcase_of (fun h => ?_) (fun h => ⟨fun h2 => ?_,rfl,rfl,rfl,.refl _⟩)))
    ·have h:=of_decide_eq_true h
     have hk:z.i < l.length:=by rw [tcellL_length] at h; omega
     have w1:IntKind.wrap .i64 ((z.i:Int) + 1) = ((z.i + 1:Nat):Int):=by rw [wr_small (by omega) (by omega)]; omega
     have hm:=List.getElem_mem hk
     refine ⟨⟨by omega,h⟩,l[z.i],by rw [Int.toNat_natCast]; exact tcellL_get hk,l[z.i],rfl,bcase_of (fun h => ?_) (fun h => bcase_of (fun h3 => ?_) (fun h3 => ?_))⟩
     ·exact ⟨⟨_,hm,grT_chk (by simpa using h)⟩,rfl,.refl _⟩
     ·exact ⟨⟨_,hm,by simpa using h3⟩,rfl,.refl _⟩
     ·have h3:grT l[z.i] = true:=by simpa using h3
      refine ⟨⟨z.σ.untok,z.i + 1⟩,⟨⟨hk,hz.untok hnt,fun x hx => ?_⟩,?_⟩,rfl,rfl,rfl,rfl,rfl,?_,.refl _⟩
      ·have hx:x ∈ l.take (z.i + 1):=hx
       rw [List.take_succ_eq_append_getElem hk] at hx
       rcases List.mem_append.1 hx with hx | hx
       ·exact hg x hx
       ·obtain rfl:x = l[z.i]:=by simpa using hx
        exact h3
      ·show l.length - (z.i + 1) < l.length - z.i
       omega
      ·show TV.v (AV.int .i64 (IntKind.wrap .i64 ((z.i:Int) + 1))) = TV.v (AV.int .i64 ((z.i + 1:Nat):Int))
       rw [w1]
    ·have h:=of_decide_eq_false h
     rw [tcellL_length] at h; omega
   ·obtain ⟨hj,hz,hg⟩:z.i <= l.length /\ At c z.σ /\ ∀ x ∈ l.take z.i,grT x = true:=hI
    cases e with
    | exit j =>
     match j,kk with
     | 2,kk =>
      have hk:¬ z.i < l.length:=kk.1
      rw [show z.i = l.length by omega,List.take_length] at hg
      exact ⟨_,_,(atF_ok kk.2).1,(atF_ok kk.2).2,hE1 _ hz hg⟩
    | ret => exact ⟨_,_,(atF_ok kk.2).1,(atF_ok kk.2).2,hE2 _ (hz.untok hnt) kk.1⟩
    | normal => exact absurd rfl hne
    | _ => exact kk.elim
  ·have h:=of_decide_eq_true h
   have hk:y.i < ls.length:=by omega
   have w1:IntKind.wrap .i64 ((y.i:Int) + 1) = ((y.i + 1:Nat):Int):=by rw [wr_small (by omega) (by omega)]; omega
   refine ⟨⟨lsV ls,g⟩,hy.obj hcl,⟨by omega,h⟩,⟨lsV ls,g⟩,hy.obj hcl,?_,ls[y.i],?_,y.i,ls[y.i],y.σ,⟨rfl,List.getElem?_eq_getElem hk,hy⟩,⟨rfl,rfl,rfl,rfl,rfl,rfl,.refl _⟩,fun σ' h1 h2 => ⟨⟨σ',y.i + 1⟩,⟨⟨hk,h1,fun l hl => ?_⟩,?_⟩,rfl,rfl,?_,.refl _⟩,
    fun σ' h1 h2 => ⟨⟨_,List.getElem_mem hk,h2⟩,σ',h1,rfl,.refl _⟩⟩
   ·show (0 + Int.toNat (y.i:Int)) * 1 < (lsV ls).length
    rw [lsV_len,Int.toNat_natCast]; omega
   ·show (lsV ls).getD ((0 + Int.toNat (y.i:Int)) * 1) .undef = _
    rw [Int.toNat_natCast,Nat.zero_add,Nat.mul_one,lsV_get hk]; rfl
   ·have hl:l ∈ ls.take (y.i + 1):=hl
    rw [List.take_succ_eq_append_getElem hk] at hl
    rcases List.mem_append.1 hl with hl | hl
    ·exact hgr l hl
    ·obtain rfl:l = ls[y.i]:=by simpa using hl
     exact h2
   ·show ls.length - (y.i + 1) < ls.length - y.i
    omega
   ·show TV.v (AV.int .i64 (IntKind.wrap .i64 ((y.i:Int) + 1))) = TV.v (AV.int .i64 ((y.i + 1:Nat):Int))
    rw [w1]
  ·have h:=of_decide_eq_false h
   omega
 ·obtain ⟨hi,hy,hgr⟩:y.i <= ls.length /\ At c y.σ /\ ∀ l ∈ ls.take y.i,∀ x ∈ l,grT x = true:=hI
  cases e with
  | exit j =>
   match j,kk with
   | 0,kk =>
    have hk:¬ y.i < ls.length:=kk.1
    rw [show y.i = ls.length by omega,List.take_length] at hgr
    exact ⟨_,_,(atF_ok kk.2).1,(atF_ok kk.2).2,hR1 _ hy hgr⟩
  | ret =>
   obtain ⟨h1,σ1,h2,h3⟩:=kk
   exact ⟨_,_,(atF_ok h3).1,(atF_ok h3).2,hR2 _ h2 h1⟩
  | normal => exact absurd rfl hne
  | _ => exact kk.elim
end
end Go.V
