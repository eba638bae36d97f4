import Derived.Test.YtgnjidopnplbbaaGreatDoorR31
/- Conditions: the reference's Done, Inputs, SameInts, SameItems, IsEvent, Do; the law's same. -/
set_option maxRecDepth 1000000
set_option linter.unusedVariables false
namespace Go.V
open Go Go.Proofs

/- SameInts -/
/- SameItems -/
def itemsV (l:List (Nat × T)):List AV:=l.map itemC
def hItem:Hint:=Hint.as (fun x:Nat × T => .vptr [.int .i64 (x.1:Int),.int .i64 x.2.k,.int .i64 x.2.n,.str x.2.s,.slice 4 (tcellL x.2.l) .any])
def ls52 (l:List (Nat × T)):LS Nat where
 F i:=[(0,.v (.slice 5 (itemsV l) .any)),(1,.v (.slice 5 (itemsV l) .any)),(5,.v (.int .i64 (i:Int)))]
 FL _:=[]
 S _:=noObj
 I i:=i <= l.length
 μ i:=l.length - i
 Ex i e x σ:=match e with
  | .exit 0 => True
  | _ => False
def N52:FnHint:=hAt [(6,2,hItem),(6,7,hItem),(6,14,hItem),(6,19,hItem)]
theorem fnParts_52:fnParts Tryz.prog [] 52 = [.loop (bodyOf (fnPart Tryz.prog [] 52 0))]:=by kernel_rfl
def H52 (E:Env) (N:Nat):Hand:=hnd E annA noHints [(33,C33 N)]
theorem vc52l (B:Nat) (w0:World) (G:Nat -> AV) (N:Nat) (l:List (Nat × T)) (i:Nat):(wpX [] (EV B w0 G) (H52 (EV B w0 G) N) (fun _ _ _ _ => False) (annA 52) N52 (bodyOf (fnPart Tryz.prog [] 52 0)) ((ls52 l).post i) (frm [(0,.v (.slice 5 (itemsV l) .any)),(1,.v (.slice 5 (itemsV l) .any)),(5,.v (.int .i64 (i:Int)))] []) noObj) =
 ((bcase (decide ((((i:Nat):Int):Int) < (((List.length (itemsV l)):Nat):Int)))
 ((((0:Int) <= ((i:Nat):Int))/\
 ((((i:Nat):Int):Int) < (((List.length (itemsV l)):Nat):Int)))/\
 (∃ x0:Nat × T,(((AV.vptr (AV.cells (List.getD (itemsV l) (Int.toNat (↑i:Int)) AV.undef))) = (AV.vptr [(AV.int .i64 ((Prod.fst x0:Nat):Int)),(AV.int .i64 (T.k (Prod.snd x0))),(AV.int .i64 (T.n (Prod.snd x0))),(AV.str (T.s (Prod.snd x0))),(AV.slice 4 (tcellL (T.l (Prod.snd x0))) Cap.any)]))/\
 ((((0:Int) <= ((i:Nat):Int))/\
 ((((i:Nat):Int):Int) < (((List.length (itemsV l)):Nat):Int)))/\
 (∃ x1:Nat × T,(((AV.vptr (AV.cells (List.getD (itemsV l) (Int.toNat (↑i:Int)) AV.undef))) = (AV.vptr [(AV.int .i64 ((Prod.fst x1:Nat):Int)),(AV.int .i64 (T.k (Prod.snd x1))),(AV.int .i64 (T.n (Prod.snd x1))),(AV.str (T.s (Prod.snd x1))),(AV.slice 4 (tcellL (T.l (Prod.snd x1))) Cap.any)]))/\
 (bcase ((((Prod.fst x0:Nat):Int):Int) != ((Prod.fst x1:Nat):Int))
 False
 ((((0:Int) <= ((i:Nat):Int))/\
 ((((i:Nat):Int):Int) < (((List.length (itemsV l)):Nat):Int)))/\
 (∃ x2:Nat × T,(((AV.vptr (AV.cells (List.getD (itemsV l) (Int.toNat (↑i:Int)) AV.undef))) = (AV.vptr [(AV.int .i64 ((Prod.fst x2:Nat):Int)),(AV.int .i64 (T.k (Prod.snd x2))),(AV.int .i64 (T.n (Prod.snd x2))),(AV.str (T.s (Prod.snd x2))),(AV.slice 4 (tcellL (T.l (Prod.snd x2))) Cap.any)]))/\
 ((((0:Int) <= ((i:Nat):Int))/\
 ((((i:Nat):Int):Int) < (((List.length (itemsV l)):Nat):Int)))/\
 (∃ x3:Nat × T,(((AV.vptr (AV.cells (List.getD (itemsV l) (Int.toNat (↑i:Int)) AV.undef))) = (AV.vptr [(AV.int .i64 ((Prod.fst x3:Nat):Int)),(AV.int .i64 (T.k (Prod.snd x3))),(AV.int .i64 (T.n (Prod.snd x3))),(AV.str (T.s (Prod.snd x3))),(AV.slice 4 (tcellL (T.l (Prod.snd x3))) Cap.any)]))/\
 (∃ a4:T,(∃ b5:T,(([(AV.agg [(AV.int .i64 (T.k (Prod.snd x2))),(AV.int .i64 (T.n (Prod.snd x2))),(AV.str (T.s (Prod.snd x2))),(AV.slice 4 (tcellL (T.l (Prod.snd x2))) Cap.any)]),(AV.agg [(AV.int .i64 (T.k (Prod.snd x3))),(AV.int .i64 (T.n (Prod.snd x3))),(AV.str (T.s (Prod.snd x3))),(AV.slice 4 (tcellL (T.l (Prod.snd x3))) Cap.any)])] = [(AV.agg [(AV.int .i64 (T.k a4)),(AV.int .i64 (T.n a4)),(AV.str (T.s a4)),(AV.slice 4 (tcellL (T.l a4)) Cap.any)]),(AV.agg [(AV.int .i64 (T.k b5)),(AV.int .i64 (T.n b5)),(AV.str (T.s b5)),(AV.slice 4 (tcellL (T.l b5)) Cap.any)])])/\
 (((T.small a4)/\
 ((SizeOf.sizeOf a4:Nat) < (N)))/\
 (bcase (!(same a4 b5))
 False
 (∃ x'6:Nat,(((LS.I (ls52 l) x'6)/\
 (((LS.μ (ls52 l) x'6):Nat) < (LS.μ (ls52 l) i)))/\
 ((Rf (TV.v (AV.slice 5 (itemsV l) Cap.any)))/\
 ((Rf (TV.v (AV.slice 5 (itemsV l) Cap.any)))/\
 (((TV.v (AV.int .i64 (IntKind.wrap .i64 (((i:Nat):Int) + 1)))) = (TV.v (AV.int .i64 (((x'6):Nat):Int))))/\
 (State.Le ((ls52 l).3 x'6) (State.untok (noObj))))))))))))))))))))))))))
 True)):=by kernel_rfl
def T52 (l:List (Nat × T)):LHand:=fun _ Q x σ => atF x ((ls52 l).F 0) [] (noObj.Le σ) /\ ∀ σ',Q (.exit 0) (frm [] []) σ'
theorem vc52 (B:Nat) (w0:World) (G:Nat -> AV) (N:Nat) (l:List (Nat × T)) (Q:AV -> State -> Prop):(bodyX [] (EV B w0 G) (H52 (EV B w0 G) N) (T52 l) annA N52 52 [.slice 5 (itemsV l) .any,.slice 5 (itemsV l) .any] noObj Q) =
 ((bcase (((((List.length (itemsV l)):Nat):Int):Int) != (((List.length (itemsV l)):Nat):Int))
 (Q (AV.bool false) (noObj))
 (((Rf (TV.v (AV.slice 5 (itemsV l) Cap.any)))/\
 ((Rf (TV.v (AV.slice 5 (itemsV l) Cap.any)))/\
 ((Rf (TV.v (AV.int .i64 0)))/\
 (State.Le (noObj) (noObj)))))/\
 (∀ σ'0:State,(Q (AV.bool true) σ'0))))):=by kernel_rfl
def C52:Contract:=fun args σ K => ∃ l:List (Nat × T),args = [.slice 5 (itemsV l) .any,.slice 5 (itemsV l) .any] /\ ((l.length <= 1000000 /\ ∀ x ∈ l,x.2.small) /\ K (.bool true) σ.untok)

/- Done -/
def ls100 (m:RM):LS Nat where
 F i:=[(1,.l 1 0),(3,.v (.int .i64 (i:Int)))]
 FL _:=[(1,[.slice 4 (rL m.I) .any,.slice 1 (intsV m.turn) .any,.int .i64 (m.work:Int),.int .i64 (m.puts:Int)])]
 S _:=noObj
 I i:=i <= m.I.length /\ ∀ k,k < i -> (m.at k).dead = true
 μ i:=m.I.length - i
 Ex i e x σ:=match e with
  | .exit 0 => ¬ (i < m.I.length)
  | .ret => m.done = false /\ atF x [(2,.v (.bool false))] [] (noObj.Le σ)
  | _ => False
def N100:FnHint:=hAt [(4,3,hRI),(4,10,hRI)]
theorem fnParts_100:fnParts Tryz.prog [] 100 = [.loop (bodyOf (fnPart Tryz.prog [] 100 0))]:=by kernel_rfl
theorem vc100l (B:Nat) (w0:World) (G:Nat -> AV) (m:RM) (i:Nat):(wpX [] (EV B w0 G) (H0 (EV B w0 G)) (fun _ _ _ _ => False) (annA 100) N100 (bodyOf (fnPart Tryz.prog [] 100 0)) ((ls100 m).post i) (frm [(1,.l 1 0),(3,.v (.int .i64 (i:Int)))] [(1,[.slice 4 (rL m.I) .any,.slice 1 (intsV m.turn) .any,.int .i64 (m.work:Int),.int .i64 (m.puts:Int)])]) noObj) =
 ((bcase (decide ((((i:Nat):Int):Int) < (((List.length (rL (RM.I m))):Nat):Int)))
 ((((0:Int) <= ((i:Nat):Int))/\
 ((((i:Nat):Int):Int) < (((List.length (rL (RM.I m))):Nat):Int)))/\
 (∃ x0:RI,(((AV.vptr (AV.cells (List.getD (rL (RM.I m)) (Int.toNat (↑i:Int)) AV.undef))) = (AV.vptr [(AV.slice 4 (tcellL (RI.q x0)) Cap.any),(AV.bool (RI.op x0)),(AV.bool (RI.fr x0)),(AV.int .i64 (RI.bh x0))]))/\
 (bcase (RI.op x0)
 (((RM.done m) = false)/\
 ((Rf (TV.v (AV.bool false)))/\
 (State.Le (noObj) (noObj))))
 ((((0:Int) <= ((i:Nat):Int))/\
 ((((i:Nat):Int):Int) < (((List.length (rL (RM.I m))):Nat):Int)))/\
 (∃ x1:RI,(((AV.vptr (AV.cells (List.getD (rL (RM.I m)) (Int.toNat (↑i:Int)) AV.undef))) = (AV.vptr [(AV.slice 4 (tcellL (RI.q x1)) Cap.any),(AV.bool (RI.op x1)),(AV.bool (RI.fr x1)),(AV.int .i64 (RI.bh x1))]))/\
 (bcase (decide (((((List.length (tcellL (RI.q x1))):Nat):Int):Int) > 0))
 (((RM.done m) = false)/\
 ((Rf (TV.v (AV.bool false)))/\
 (State.Le (noObj) (noObj))))
 (∃ x'2:Nat,((((((x'2):Nat) <= (List.length (RM.I m)))/\
 (∀ k3:Nat,((((k3):Nat) < (x'2)) -> ((RI.dead (RM.at m k3)) = true))))/\
 (((LS.μ (ls100 m) x'2):Nat) < (LS.μ (ls100 m) i)))/\
 ((Rf (TV.l 1 0))/\
 (((TV.v (AV.int .i64 (IntKind.wrap .i64 (((i:Nat):Int) + 1)))) = (TV.v (AV.int .i64 (((x'2):Nat):Int))))/\
 ((Rf [(AV.slice 4 (rL (RM.I m)) Cap.any),(AV.slice 1 (intsV (RM.turn m)) Cap.any),(AV.int .i64 ((RM.work m:Nat):Int)),(AV.int .i64 ((RM.puts m:Nat):Int))])/\
 (State.Le ((ls100 m).3 x'2) (noObj)))))))))))))))
 ((((i):Nat) < (List.length (RM.I m))) -> False))):=by kernel_rfl
def T100 (m:RM):LHand:=fun _ Q x σ => atF x ((ls100 m).F 0) ((ls100 m).FL 0) (noObj.Le σ) /\ ((m.done = true -> ∀ σ',Q (.exit 0) (frm [] []) σ') /\ (m.done = false -> Q .ret (frm [(2,.v (.bool false))] []) noObj))
theorem vc100 (B:Nat) (w0:World) (G:Nat -> AV) (m:RM) (Q:AV -> State -> Prop):(bodyX [] (EV B w0 G) (H0 (EV B w0 G)) (T100 m) annA N100 100 [.agg [.slice 4 (rL m.I) .any,.slice 1 (intsV m.turn) .any,.int .i64 (m.work:Int),.int .i64 (m.puts:Int)]] noObj Q) =
 ((((Rf (TV.l 1 0))/\
 ((Rf (TV.v (AV.int .i64 0)))/\
 ((Rf [(AV.slice 4 (rL (RM.I m)) Cap.any),(AV.slice 1 (intsV (RM.turn m)) Cap.any),(AV.int .i64 ((RM.work m:Nat):Int)),(AV.int .i64 ((RM.puts m:Nat):Int))])/\
 (State.Le (noObj) (noObj)))))/\
 ((((RM.done m) = true) -> (∀ σ'0:State,(Q (AV.bool true) σ'0)))/\
 (((RM.done m) = false) -> (Q (AV.bool false) (noObj)))))):=by kernel_rfl
def C100v:Contract:=fun args σ K => ∃ m:RM,args = [rmV m] /\ (m.I.length <= 1000000 /\ K (.bool m.done) σ.untok)

/- Inputs -/
/- IsEvent -/
def noneT (t:T):Bool:=t.k == 0 && (t.n == 0 && (bseq t.s ⟨#[]⟩ && (((tcellL t.l).length:Int) == 0)))
theorem vc126 (B:Nat) (w0:World) (G:Nat -> AV) (t:T) (Q:AV -> State -> Prop):(bodyC (EV B w0 G) (H0 (EV B w0 G)) (fun _ _ _ _ => False) annA noHint 126 [.agg [.int .i64 t.k,.int .i64 t.n,.str t.s,.slice 4 (tcellL t.l) .any]] noObj Q) =
 ((bcase (((T.k t):Int) == 0)
 (bcase (((T.n t):Int) == 0)
 (bcase (bseq (T.s t) { data:=#[] })
 (Q (AV.bool (((((List.length (tcellL (T.l t))):Nat):Int):Int) == 0)) (noObj))
 (Q (AV.bool false) (noObj)))
 (Q (AV.bool false) (noObj)))
 (Q (AV.bool false) (noObj)))):=by kernel_rfl
def C126:Contract:=fun args σ K => ∃ t:T,args = [.agg [.int .i64 t.k,.int .i64 t.n,.str t.s,.slice 4 (tcellL t.l) .any]] /\ K (.bool (noneT t)) σ.untok
def H96 (E:Env):Hand:=hnd E annA noHints [(126,C126)]
theorem vc96 (B:Nat) (w0:World) (G:Nat -> AV) (e:Ev) (Q:AV -> State -> Prop):(bodyC (EV B w0 G) (H96 (EV B w0 G)) (fun _ _ _ _ => False) annA noHint 96 [.agg [.int .i64 e.k,.int .i64 e.i,.int .i64 e.n,.int .i64 e.t.k,.int .i64 e.t.n,.str e.t.s,.slice 4 (tcellL e.t.l) .any]] noObj Q) =
 ((bcase (((Ev.k e):Int) == 1)
 (Q (AV.bool (((Ev.n e):Int) == 0)) (noObj))
 (bcase (((Ev.k e):Int) == 2)
 (bcase (((Ev.n e):Int) == 0)
 (∃ t0:T,(([(AV.agg [(AV.int .i64 (T.k (Ev.t e))),(AV.int .i64 (T.n (Ev.t e))),(AV.str (T.s (Ev.t e))),(AV.slice 4 (tcellL (T.l (Ev.t e))) Cap.any)])] = [(AV.agg [(AV.int .i64 (T.k t0)),(AV.int .i64 (T.n t0)),(AV.str (T.s t0)),(AV.slice 4 (tcellL (T.l t0)) Cap.any)])])/\
 (Q (AV.bool (noneT t0)) (State.untok (noObj)))))
 (Q (AV.bool false) (noObj)))
 (bcase (((Ev.k e):Int) == 3)
 (∃ t0:T,(([(AV.agg [(AV.int .i64 (T.k (Ev.t e))),(AV.int .i64 (T.n (Ev.t e))),(AV.str (T.s (Ev.t e))),(AV.slice 4 (tcellL (T.l (Ev.t e))) Cap.any)])] = [(AV.agg [(AV.int .i64 (T.k t0)),(AV.int .i64 (T.n t0)),(AV.str (T.s t0)),(AV.slice 4 (tcellL (T.l t0)) Cap.any)])])/\
 (Q (AV.bool (noneT t0)) (State.untok (noObj)))))
 (bcase (((Ev.k e):Int) == 4)
 (bcase (((Ev.i e):Int) == 0)
 (bcase (((Ev.n e):Int) == 0)
 (∃ t0:T,(([(AV.agg [(AV.int .i64 (T.k (Ev.t e))),(AV.int .i64 (T.n (Ev.t e))),(AV.str (T.s (Ev.t e))),(AV.slice 4 (tcellL (T.l (Ev.t e))) Cap.any)])] = [(AV.agg [(AV.int .i64 (T.k t0)),(AV.int .i64 (T.n t0)),(AV.str (T.s t0)),(AV.slice 4 (tcellL (T.l t0)) Cap.any)])])/\
 (Q (AV.bool (noneT t0)) (State.untok (noObj)))))
 (Q (AV.bool false) (noObj)))
 (Q (AV.bool false) (noObj)))
 (Q (AV.bool false) (noObj))))))):=by kernel_rfl
end Go.V
/- The reference's Done, Inputs, SameInts, SameItems, IsEvent. -/
set_option linter.unusedSimpArgs false
set_option linter.unusedSectionVars false
namespace Go.V
open Go Go.Proofs

theorem itemsV_len (l:List (Nat × T)):(itemsV l).length = l.length:=List.length_map _
theorem itemsV_get {l:List (Nat × T)} {i:Nat} (h:i < l.length):AV.vptr (AV.cells ((itemsV l).getD i .undef)) = .vptr [.int .i64 ((l[i]).1:Int),.int .i64 (l[i]).2.k,.int .i64 (l[i]).2.n,.str (l[i]).2.s,.slice 4 (tcellL (l[i]).2.l) .any]:=by
 unfold itemsV; rw [List.getD,List.getElem?_map,List.getElem?_eq_getElem h]; rfl
theorem itemsV_noId (l:List (Nat × T)):NoId (.slice 5 (itemsV l) .any):=.slice (by simp) fun y hy => by
 unfold itemsV flat at hy
 rw [List.mem_flatMap] at hy
 obtain ⟨x,hx,hy⟩:=hy
 obtain ⟨z,_,rfl⟩:=List.mem_map.1 hx
 unfold itemC at hy
 simp only [AV.cells,List.mem_cons,List.not_mem_nil,or_false] at hy
 rcases hy with rfl | rfl | rfl | rfl | rfl
 ·exact .int _ _
 ·exact .int _ _
 ·exact .int _ _
 ·exact .str _
 ·exact .slice (by simp) (tcellL_noId z.2.l).2
theorem noObj_le:noObj.Le noObj.untok:=⟨rfl,fun id => .inr rfl⟩
theorem pair_size (x:Nat × T):SizeOf.sizeOf x.2 < SizeOf.sizeOf x:=by
 obtain ⟨a,b⟩:=x
 show SizeOf.sizeOf b < 1 + SizeOf.sizeOf a + SizeOf.sizeOf b
 omega
def isEv (e:Ev):Bool:=if e.k == 1 then e.n == 0 else if e.k == 2 then (if e.n == 0 then noneT e.t else false) else if e.k == 3 then noneT e.t else (if e.k == 4 then (if e.i == 0 then (if e.n == 0 then noneT e.t else false) else false) else false)
def C96:Contract:=fun args σ K => ∃ e:Ev,args = [.agg [.int .i64 e.k,.int .i64 e.i,.int .i64 e.n,.int .i64 e.t.k,.int .i64 e.t.n,.str e.t.s,.slice 4 (tcellL e.t.l) .any]] /\ K (.bool (isEv e)) σ.untok
theorem ev_noId (e:Ev):NoId (.agg [.int .i64 e.k,.int .i64 e.i,.int .i64 e.n,.int .i64 e.t.k,.int .i64 e.t.n,.str e.t.s,.slice 4 (tcellL e.t.l) .any]):=.agg fun y hy => by
 simp only [List.mem_cons,List.not_mem_nil,or_false] at hy
 rcases hy with rfl | rfl | rfl | rfl | rfl | rfl | rfl
 ·exact .int _ _
 ·exact .int _ _
 ·exact .int _ _
 ·exact .int _ _
 ·exact .int _ _
 ·exact .str _
 ·exact .slice (by simp) (tcellL_noId e.t.l).2
theorem done_all {m:RM}:m.done = true ↔ ∀ k,k < m.I.length -> (m.at k).dead = true:=by
 unfold RM.done
 rw [List.all_eq_true]
 constructor
 ·intro h k hk
  rw [<-at_get hk]
  exact h _ (List.getElem_mem hk)
 ·intro h x hx
  obtain ⟨k,hk,rfl⟩:=List.mem_iff_getElem.1 hx
  rw [at_get hk]; exact h k hk
theorem done_not {m:RM} {k:Nat} (hk:k < m.I.length) (h:(m.at k).dead = false):m.done = false:=by
 cases hd:m.done with
 | false => rfl
 | true => rw [done_all.1 hd k hk] at h; cases h
section
variable {B:Nat} {w0:World} {G:Nat -> AV}
theorem c52_ok (hG:∀ i,NoId (G i)):ContractOk (EV B w0 G) 52 C52:=by
 rintro args σ Q ⟨l,rfl,⟨ha,hs⟩,hQ⟩
 refine pure_of hG (fun y hy => ?_) (.bool _) (fun Q hQ => ?_) hQ
 ·simp only [List.mem_cons,List.not_mem_nil,or_false] at hy
  rcases hy with rfl | rfl <;> exact itemsV_noId _
 have hH:HOk1 (EV B w0 G) (H52 (EV B w0 G) (SizeOf.sizeOf l + 1)):=hnd_ok (EV_mixed B w0 G) (contracts_cons (c33_ok hG _) contracts_nil)
 refine bodyX_ok (cuts:=[]) (EV_mixed B w0 G) hH (fun lp hl _ Q a' σ kk => ?_) ((vc52 B w0 G (SizeOf.sizeOf l + 1) l Q).mpr (bcase_of (fun h => by simp at h) (fun h => ⟨⟨rfl,rfl,rfl,.refl _⟩,fun σ' => hQ σ'⟩)))
 change lp ∈ fnParts Tryz.prog [] 52 at hl
 rw [fnParts_52] at hl
 simp only [List.mem_cons,List.not_mem_nil,or_false] at hl
 subst hl
 obtain ⟨hat,h1⟩:=kk
 refine awp_loopS (ls52 l) (x0:=0) (fun i hI => ?_) (fun i hI e a' σ hne kk => ?_) (Nat.zero_le _) hat
 ·have hi:i <= l.length:=hI
  show AWp _ _ _ _ _ (frm [(0,.v (.slice 5 (itemsV l) .any)),(1,.v (.slice 5 (itemsV l) .any)),(5,.v (.int .i64 (i:Int)))] []) noObj
  refine wpX_ok hH (EV_mixed B w0 G) (L:=fun _ _ _ _ => False) _ _ _ _ (fun p hp hc Q a σ k => k.elim) (by kernel_rfl) ((vc52l B w0 G (SizeOf.sizeOf l + 1) l i).mpr (bcase_of (fun h => ?_) (fun h => trivial)))
  have h:=of_decide_eq_true h
  have hk:i < l.length:=by rw [itemsV_len] at h; omega
  have w1:IntKind.wrap .i64 ((i:Int) + 1) = ((i + 1:Nat):Int):=by rw [wr_small (by omega) (by omega)]; omega
  have hg:AV.vptr (AV.cells ((itemsV l).getD (Int.toNat (i:Int)) .undef)) = .vptr [.int .i64 ((l[i]).1:Int),.int .i64 (l[i]).2.k,.int .i64 (l[i]).2.n,.str (l[i]).2.s,.slice 4 (tcellL (l[i]).2.l) .any]:=by rw [Int.toNat_natCast]; exact itemsV_get hk
  have hrng:(0:Int) <= (i:Int) /\ (i:Int) < ((itemsV l).length:Int):=⟨by omega,h⟩
  have hm:=List.getElem_mem hk
  have hsz:SizeOf.sizeOf (l[i]).2 < SizeOf.sizeOf l + 1:=by
   have h1:=List.sizeOf_lt_of_mem hm
   have h2:=pair_size (l[i])
   omega
  refine ⟨hrng,l[i],hg,hrng,l[i],hg,bcase_of (fun h => by simp at h) (fun _ => ⟨hrng,l[i],hg,hrng,l[i],hg,(l[i]).2,(l[i]).2,rfl,⟨hs _ hm,hsz⟩,bcase_of (fun h => ?_) (fun _ => ?_)⟩)⟩
  ·rw [same_refl_aux.1 (l[i]).2] at h; cases h
  ·exact ⟨i + 1,⟨hk,by show l.length - (i + 1) < l.length - i; omega⟩,rfl,rfl,by rw [w1],noObj_le⟩
 ·cases e with
  | exit j =>
   match j,kk with
   | 0,kk => exact ⟨_,σ,(atF_ok (F:=[]) (FL:=[]) (R:=True) ⟨⟩).1,.refl _,h1 σ⟩
  | normal => exact absurd rfl hne
  | _ => exact kk.elim

theorem c100_ok (hG:∀ i,NoId (G i)):ContractOk (EV B w0 G) 100 C100v:=by
 rintro args σ Q ⟨m,rfl,ha,hQ⟩
 refine pure_of hG (fun y hy => ?_) (.bool _) (fun Q hQ => ?_) hQ
 ·simp only [List.mem_cons,List.not_mem_nil,or_false] at hy
  subst hy; exact rmV_noId m
 refine bodyX_ok (cuts:=[]) (EV_mixed B w0 G) H0_ok (fun lp hl _ Q a' σ kk => ?_) ((vc100 B w0 G m Q).mpr ⟨⟨rfl,rfl,rfl,.refl _⟩,fun h => ?_,fun h => ?_⟩)
 ·change lp ∈ fnParts Tryz.prog [] 100 at hl
  rw [fnParts_100] at hl
  simp only [List.mem_cons,List.not_mem_nil,or_false] at hl
  subst hl
  obtain ⟨hat,h1,h2⟩:=kk
  refine awp_loopS (ls100 m) (x0:=0) (fun i hI => ?_) (fun i hI e a' σ hne kk => ?_) ⟨Nat.zero_le _,fun k hk => absurd hk (by omega)⟩ hat
  ·obtain ⟨hi,hpre⟩:i <= m.I.length /\ ∀ k,k < i -> (m.at k).dead = true:=hI
   show AWp _ _ _ _ _ (frm [(1,.l 1 0),(3,.v (.int .i64 (i:Int)))] [(1,[.slice 4 (rL m.I) .any,.slice 1 (intsV m.turn) .any,.int .i64 (m.work:Int),.int .i64 (m.puts:Int)])]) noObj
   refine wpX_ok H0_ok (EV_mixed B w0 G) (L:=fun _ _ _ _ => False) _ _ _ _ (fun p hp hc Q a σ k => k.elim) (by kernel_rfl) ((vc100l B w0 G m i).mpr (bcase_of (fun h => ?_) (fun h h2 => by have h:=of_decide_eq_false h; rw [rL_len] at h; omega)))
   have h:=of_decide_eq_true h
   have hk:i < m.I.length:=by rw [rL_len] at h; omega
   have w1:IntKind.wrap .i64 ((i:Int) + 1) = ((i + 1:Nat):Int):=by rw [wr_small (by omega) (by omega)]; omega
   have hg:AV.vptr (AV.cells ((rL m.I).getD (Int.toNat (i:Int)) .undef)) = .vptr [.slice 4 (tcellL (m.at i).q) .any,.bool (m.at i).op,.bool (m.at i).fr,.int .i64 (m.at i).bh]:=by
    rw [Int.toNat_natCast,rL_get hk,at_get hk]; rfl
   refine ⟨⟨by omega,h⟩,m.at i,hg,bcase_of (fun hop => ⟨done_not hk ?_,rfl,.refl _⟩) (fun hop => ⟨⟨by omega,h⟩,m.at i,hg,bcase_of (fun hq => ⟨done_not hk ?_,rfl,.refl _⟩) (fun hq => ?_)⟩)⟩
   ·unfold RI.dead; rw [hop]; rfl
   ·have hq:=of_decide_eq_true hq
    rw [tcellL_length] at hq
    unfold RI.dead
    rw [hop]
    cases e:(m.at i).q with
    | nil => rw [e] at hq; simp at hq
    | cons => rfl
   ·have hq:=of_decide_eq_false hq
    rw [tcellL_length] at hq
    refine ⟨i + 1,⟨⟨hk,fun k hk2 => ?_⟩,by show m.I.length - (i + 1) < m.I.length - i; omega⟩,rfl,by rw [w1],rfl,.refl _⟩
    by_cases e:k = i
    ·subst e
     unfold RI.dead
     rw [hop,List.length_eq_zero_iff.1 (show (m.at k).q.length = 0 by omega)]; rfl
    ·exact hpre k (by omega)
  ·obtain ⟨hi,hpre⟩:i <= m.I.length /\ ∀ k,k < i -> (m.at k).dead = true:=hI
   cases e with
   | exit j =>
    match j,kk with
    | 0,kk =>
     have kk:¬ i < m.I.length:=kk
     exact ⟨_,σ,(atF_ok (F:=[]) (FL:=[]) (R:=True) ⟨⟩).1,.refl _,h1 (done_all.2 fun k hk => hpre k (by omega)) σ⟩
   | ret => exact ⟨_,_,(atF_ok kk.2).1,(atF_ok kk.2).2,h2 kk.1⟩
   | normal => exact absurd rfl hne
   | _ => exact kk.elim
 ·rw [h] at hQ
  exact fun σ' => hQ σ'
 ·rw [h] at hQ
  exact hQ _

theorem c126_ok (hG:∀ i,NoId (G i)):ContractOk (EV B w0 G) 126 C126:=by
 rintro args σ Q ⟨t,rfl,hQ⟩
 refine pure_of hG (fun y hy => ?_) (.bool _) (fun Q hQ => ?_) hQ
 ·simp only [List.mem_cons,List.not_mem_nil,or_false] at hy
  subst hy; exact .agg (tc_noId t)
 refine bodyC_ok (EV_mixed B w0 G) H0_ok (fun l hl _ Q a σ k => k.elim) ((vc126 B w0 G t Q).mpr ?_)
 unfold noneT at hQ
 refine bcase_of (fun h1 => bcase_of (fun h2 => bcase_of (fun h3 => ?_) (fun h3 => ?_)) (fun h2 => ?_)) (fun h1 => ?_)
 ·rw [h1,h2,h3] at hQ; exact hQ _
 ·rw [h1,h2,h3] at hQ; exact hQ _
 ·rw [h1,h2] at hQ; exact hQ _
 ·rw [h1] at hQ; exact hQ _
theorem H96_ok (hG:∀ i,NoId (G i)):HOk1 (EV B w0 G) (H96 (EV B w0 G)):=hnd_ok (EV_mixed B w0 G) (contracts_cons (c126_ok hG) contracts_nil)
theorem c96_ok (hG:∀ i,NoId (G i)):ContractOk (EV B w0 G) 96 C96:=by
 rintro args σ Q ⟨e,rfl,hQ⟩
 refine pure_of hG (fun y hy => ?_) (.bool _) (fun Q hQ => ?_) hQ
 ·simp only [List.mem_cons,List.not_mem_nil,or_false] at hy
  subst hy; exact ev_noId e
 refine bodyC_ok (EV_mixed B w0 G) (H96_ok hG) (fun l hl _ Q a σ k => k.elim) ((vc96 B w0 G e Q).mpr ?_)
 unfold isEv at hQ
 refine bcase_of (fun h1 => ?_) (fun h1 => bcase_of (fun h2 => bcase_of (fun h3 => ?_) (fun h3 => ?_)) (fun h2 => bcase_of (fun h3 => ?_) (fun h3 => bcase_of (fun h4 => bcase_of (fun h5 => bcase_of (fun h6 => ?_) (fun h6 => ?_)) (fun h5 => ?_)) (fun h4 => ?_))))
 ·rw [h1] at hQ; exact hQ _
 ·rw [h1,h2,h3] at hQ; exact ⟨e.t,rfl,hQ _⟩
 ·rw [h1,h2,h3] at hQ; exact hQ _
 ·rw [h1,h2,h3] at hQ; exact ⟨e.t,rfl,hQ _⟩
 ·rw [h1,h2,h3,h4,h5,h6] at hQ; exact ⟨e.t,rfl,hQ _⟩
 ·rw [h1,h2,h3,h4,h5,h6] at hQ; exact hQ _
 ·rw [h1,h2,h3,h4,h5] at hQ; exact hQ _
 ·rw [h1,h2,h3,h4] at hQ; exact hQ _
end
end Go.V
/- Conditions: the reference's Do. -/
namespace Go.V
open Go Go.Proofs

def RM.doR (m:RM) (e:Ev):RM × List (Nat × T) × Int:=if isEv e then m.do e else (m,[],1)
def C99s:Contract:=fun args σ K => ∃ (m:RM),args = [rmV m] /\ m.Wf /\ ((m.next.2 = none -> K (.tuple [rmV m.next.1,item0,.bool false]) σ.untok) /\ ∀ x,m.next.2 = some x -> K (.tuple [rmV m.next.1,itemC x,.bool true]) σ.untok)
def H51 (E:Env):Hand:=hnd E annA noHints [(96,C96),(97,C97v),(98,C98v),(50,C50v),(99,C99s)]
theorem vc51 (B:Nat) (w0:World) (G:Nat -> AV) (m:RM) (e:Ev) (Q:AV -> State -> Prop):(bodyC (EV B w0 G) (H51 (EV B w0 G)) (fun _ _ _ _ => False) annA noHint 51 [.agg [.slice 4 (rL m.I) .any,.slice 1 (intsV m.turn) .any,.int .i64 (m.work:Int),.int .i64 (m.puts:Int)],.agg [.int .i64 e.k,.int .i64 e.i,.int .i64 e.n,.int .i64 e.t.k,.int .i64 e.t.n,.str e.t.s,.slice 4 (tcellL e.t.l) .any]] noObj Q) =
 ((∃ e0:Ev,(([(AV.agg [(AV.int .i64 (Ev.k e)),(AV.int .i64 (Ev.i e)),(AV.int .i64 (Ev.n e)),(AV.int .i64 (T.k (Ev.t e))),(AV.int .i64 (T.n (Ev.t e))),(AV.str (T.s (Ev.t e))),(AV.slice 4 (tcellL (T.l (Ev.t e))) Cap.any)])] = [(AV.agg [(AV.int .i64 (Ev.k e0)),(AV.int .i64 (Ev.i e0)),(AV.int .i64 (Ev.n e0)),(AV.int .i64 (T.k (Ev.t e0))),(AV.int .i64 (T.n (Ev.t e0))),(AV.str (T.s (Ev.t e0))),(AV.slice 4 (tcellL (T.l (Ev.t e0))) Cap.any)])])/\
 (bcase (!(isEv e0))
 (Q (AV.tuple [(AV.agg [(AV.slice 4 (rL (RM.I m)) Cap.any),(AV.slice 1 (intsV (RM.turn m)) Cap.any),(AV.int .i64 ((RM.work m:Nat):Int)),(AV.int .i64 ((RM.puts m:Nat):Int))]),AV.nilslice,(AV.int .i64 1)]) (State.untok (noObj)))
 (bcase (((Ev.k e):Int) == 1)
 (∃ m1:RM,(∃ i2:Int,(∃ t3:T,(([(AV.agg [(AV.slice 4 (rL (RM.I m)) Cap.any),(AV.slice 1 (intsV (RM.turn m)) Cap.any),(AV.int .i64 ((RM.work m:Nat):Int)),(AV.int .i64 ((RM.puts m:Nat):Int))]),(AV.int .i64 (Ev.i e)),(AV.agg [(AV.int .i64 (T.k (Ev.t e))),(AV.int .i64 (T.n (Ev.t e))),(AV.str (T.s (Ev.t e))),(AV.slice 4 (tcellL (T.l (Ev.t e))) Cap.any)])] = [(AV.agg [(AV.slice 4 (rL (RM.I m1)) Cap.any),(AV.slice 1 (intsV (RM.turn m1)) Cap.any),(AV.int .i64 ((RM.work m1:Nat):Int)),(AV.int .i64 ((RM.puts m1:Nat):Int))]),(AV.int .i64 (i2)),(AV.agg [(AV.int .i64 (T.k t3)),(AV.int .i64 (T.n t3)),(AV.str (T.s t3)),(AV.slice 4 (tcellL (T.l t3)) Cap.any)])])/\
 (((RM.Wf m1)/\
 ((T.bulk t3:Nat) <= 1099511627776))/\
 (Q (AV.tuple [(AV.agg [(AV.slice 4 (rL (RM.I (Prod.fst (RM.put m1 i2 t3)))) Cap.any),(AV.slice 1 (intsV (RM.turn (Prod.fst (RM.put m1 i2 t3)))) Cap.any),(AV.int .i64 (((RM.work (Prod.fst (RM.put m1 i2 t3))):Nat):Int)),(AV.int .i64 (((RM.puts (Prod.fst (RM.put m1 i2 t3))):Nat):Int))]),AV.nilslice,(AV.int .i64 (Prod.snd (RM.put m1 i2 t3)))]) (State.untok (State.untok (noObj)))))))))
 (bcase (((Ev.k e):Int) == 2)
 (∃ m1:RM,(∃ i2:Int,(([(AV.agg [(AV.slice 4 (rL (RM.I m)) Cap.any),(AV.slice 1 (intsV (RM.turn m)) Cap.any),(AV.int .i64 ((RM.work m:Nat):Int)),(AV.int .i64 ((RM.puts m:Nat):Int))]),(AV.int .i64 (Ev.i e))] = [(AV.agg [(AV.slice 4 (rL (RM.I m1)) Cap.any),(AV.slice 1 (intsV (RM.turn m1)) Cap.any),(AV.int .i64 ((RM.work m1:Nat):Int)),(AV.int .i64 ((RM.puts m1:Nat):Int))]),(AV.int .i64 (i2))])/\
 ((RM.Wf m1)/\
 (Q (AV.tuple [(AV.agg [(AV.slice 4 (rL (RM.I (Prod.fst (RM.close m1 i2)))) Cap.any),(AV.slice 1 (intsV (RM.turn (Prod.fst (RM.close m1 i2)))) Cap.any),(AV.int .i64 (((RM.work (Prod.fst (RM.close m1 i2))):Nat):Int)),(AV.int .i64 (((RM.puts (Prod.fst (RM.close m1 i2))):Nat):Int))]),AV.nilslice,(AV.int .i64 (Prod.snd (RM.close m1 i2)))]) (State.untok (State.untok (noObj))))))))
 (bcase (((Ev.k e):Int) == 3)
 (∃ m1:RM,(∃ i2:Int,(∃ n3:Int,(([(AV.agg [(AV.slice 4 (rL (RM.I m)) Cap.any),(AV.slice 1 (intsV (RM.turn m)) Cap.any),(AV.int .i64 ((RM.work m:Nat):Int)),(AV.int .i64 ((RM.puts m:Nat):Int))]),(AV.int .i64 (Ev.i e)),(AV.int .i64 (Ev.n e))] = [(AV.agg [(AV.slice 4 (rL (RM.I m1)) Cap.any),(AV.slice 1 (intsV (RM.turn m1)) Cap.any),(AV.int .i64 ((RM.work m1:Nat):Int)),(AV.int .i64 ((RM.puts m1:Nat):Int))]),(AV.int .i64 (i2)),(AV.int .i64 (n3))])/\
 ((RM.Wf m1)/\
 (Q (AV.tuple [(AV.agg [(AV.slice 4 (rL (RM.I (Prod.fst (RM.split m1 i2 n3)))) Cap.any),(AV.slice 1 (intsV (RM.turn (Prod.fst (RM.split m1 i2 n3)))) Cap.any),(AV.int .i64 (((RM.work (Prod.fst (RM.split m1 i2 n3))):Nat):Int)),(AV.int .i64 (((RM.puts (Prod.fst (RM.split m1 i2 n3))):Nat):Int))]),AV.nilslice,(AV.int .i64 (Prod.snd (Prod.snd (RM.split m1 i2 n3))))]) (State.untok (State.untok (noObj)))))))))
 (∃ m1:RM,(([(AV.agg [(AV.slice 4 (rL (RM.I m)) Cap.any),(AV.slice 1 (intsV (RM.turn m)) Cap.any),(AV.int .i64 ((RM.work m:Nat):Int)),(AV.int .i64 ((RM.puts m:Nat):Int))])] = [(AV.agg [(AV.slice 4 (rL (RM.I m1)) Cap.any),(AV.slice 1 (intsV (RM.turn m1)) Cap.any),(AV.int .i64 ((RM.work m1:Nat):Int)),(AV.int .i64 ((RM.puts m1:Nat):Int))])])/\
 ((RM.Wf m1)/\
 ((((Prod.snd (RM.next m1)) = Option.none) -> (Q (AV.tuple [(AV.agg [(AV.slice 4 (rL (RM.I (Prod.fst (RM.next m1)))) Cap.any),(AV.slice 1 (intsV (RM.turn (Prod.fst (RM.next m1)))) Cap.any),(AV.int .i64 (((RM.work (Prod.fst (RM.next m1))):Nat):Int)),(AV.int .i64 (((RM.puts (Prod.fst (RM.next m1))):Nat):Int))]),AV.nilslice,(AV.int .i64 0)]) (State.untok (State.untok (noObj)))))/\
 (∀ x2:Nat × T,(((Prod.snd (RM.next m1)) = (Option.some (x2))) -> ((Rf (TV.v (AV.agg [(AV.int .i64 ((Prod.fst x2:Nat):Int)),(AV.int .i64 (T.k (Prod.snd x2))),(AV.int .i64 (T.n (Prod.snd x2))),(AV.str (T.s (Prod.snd x2))),(AV.slice 4 (tcellL (T.l (Prod.snd x2))) Cap.any)])))/\
 ((Rf (TV.v (AV.slice 5 [(AV.agg [(AV.int .i64 ((Prod.fst x2:Nat):Int)),(AV.int .i64 (T.k (Prod.snd x2))),(AV.int .i64 (T.n (Prod.snd x2))),(AV.str (T.s (Prod.snd x2))),(AV.slice 4 (tcellL (T.l (Prod.snd x2))) Cap.any)])] Cap.full)))/\
 (Q (AV.tuple [(AV.agg [(AV.slice 4 (rL (RM.I (Prod.fst (RM.next m1)))) Cap.any),(AV.slice 1 (intsV (RM.turn (Prod.fst (RM.next m1)))) Cap.any),(AV.int .i64 (((RM.work (Prod.fst (RM.next m1))):Nat):Int)),(AV.int .i64 (((RM.puts (Prod.fst (RM.next m1))):Nat):Int))]),(AV.slice 5 [(AV.agg [(AV.int .i64 ((Prod.fst x2:Nat):Int)),(AV.int .i64 (T.k (Prod.snd x2))),(AV.int .i64 (T.n (Prod.snd x2))),(AV.str (T.s (Prod.snd x2))),(AV.slice 4 (tcellL (T.l (Prod.snd x2))) Cap.any)])] Cap.full),(AV.int .i64 0)]) (State.untok (State.untok (noObj))))))))))))))))))):=by kernel_rfl
def C51w:Contract:=fun args σ K => ∃ (m:RM) (e:Ev) (lv:AV),args = [rmV m,.agg [.int .i64 e.k,.int .i64 e.i,.int .i64 e.n,.int .i64 e.t.k,.int .i64 e.t.n,.str e.t.s,lv]] /\ (QV lv e.t.l /\ m.Wf /\ e.t.bulk <= 1099511627776) /\
 K (.tuple [rmV (m.doR e).1,.slice 5 (itemsV (m.doR e).2.1) .any,.int .i64 (m.doR e).2.2]) σ.untok

end Go.V
