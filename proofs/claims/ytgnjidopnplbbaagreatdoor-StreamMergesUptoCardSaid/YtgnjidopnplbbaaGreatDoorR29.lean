import Derived.Test.YtgnjidopnplbbaaGreatDoorR28
/- The reference's mergers become values again; Close. -/
set_option maxRecDepth 1000000
set_option linter.unusedVariables false
set_option linter.unusedSimpArgs false
set_option linter.unusedSectionVars false
namespace Go.V
open Go Go.Proofs

theorem mapM_some {f:AV -> Option AV}:∀ {l:List AV},(∀ x ∈ l,f x = some x) -> l.mapM f = some l
 | [],_ => rfl
 | x :: l,h => by
  rw [List.mapM_cons,h x (List.mem_cons_self ..),mapM_some fun y hy => h y (List.mem_cons_of_mem _ hy)]; rfl
theorem deep_rcells (P:Program) (σ:State) (x:RI) (n:Nat) (h:2 * SizeOf.sizeOf x.q + 4 < n):deep P σ n (.agg (rcells x)) = some (.agg (rcells x)):=by
 obtain ⟨n,rfl⟩:∃ k,n = k + 3:=⟨n - 3,by omega⟩
 show ((rcells x).mapM (deep P σ (n + 2))).map AV.agg = _
 rw [mapM_some]
 ·rfl
 ·intro y hy
  unfold rcells at hy
  simp only [List.mem_cons,List.not_mem_nil,or_false] at hy
  rcases hy with rfl | rfl | rfl | rfl
  ·show ((tcellL x.q).mapM (deep P σ (n + 1))).map _ = _
   rw [deep_tcellL P σ x.q (n + 1) (by omega)]; rfl
  ·rfl
  ·rfl
  ·rfl
theorem deep_rL (P:Program) (σ:State) (l:List RI) (n:Nat) (h:2 * SizeOf.sizeOf l + 4 < n):(rL l).mapM (deep P σ n) = some (rL l):=by
 refine mapM_some fun y hy => ?_
 unfold rL at hy
 obtain ⟨x,hx,rfl⟩:=List.mem_map.1 hy
 have h1:=List.sizeOf_lt_of_mem hx
 have h2:SizeOf.sizeOf x.q < SizeOf.sizeOf x:=by
  obtain ⟨q,a,b,c⟩:=x
  show SizeOf.sizeOf q < 1 + SizeOf.sizeOf q + _ + _ + _
  omega
 exact deep_rcells P σ x n (by omega)
theorem deep_intsV (P:Program) (σ:State) (l:List Nat) (n:Nat):(intsV l).mapM (deep P σ (n + 1)) = some (intsV l):=by
 refine mapM_some fun y hy => ?_
 unfold intsV at hy
 obtain ⟨x,hx,rfl⟩:=List.mem_map.1 hy
 rfl
theorem Wk.sliceL {sz:Nat} {xs ys:List AV} {m:Cap} (hl:xs.length = ys.length) (hw:WkL (flat xs) (flat ys)) (hsz:∀ y ∈ ys,y.cells.length = sz) (h1:(flat ys).all AV.one = true):Wk (.slice sz xs m) (.slice sz ys .any):=by
 intro g u h
 rcases h.slice_inv with ⟨a,cap,vs,rfl,hv⟩ | ⟨rfl,rfl,rfl⟩
 ·have:=SliceV.rv (g:=g) (sz:=sz) (xs:=ys) (m:=.any) (a:=a) (cap:=cap) (vs:=vs) ⟨hsz,hw.rv hv.hr,hv.hsp,hv.hF,h1,by rw [<-hl]; exact hv.hcap,trivial⟩
  rw [hl]; exact this
 ·have:ys = []:=List.length_eq_zero_iff.1 (by rw [<-hl]; rfl)
  subst this
  exact .nilany sz
theorem WkL.append {a b c d:List AV} (h:WkL a b) (k:WkL c d):WkL (a ++ c) (b ++ d):=by
 induction h with
 | nil => exact k
 | cons h hs ih => exact .cons h ih
def QsL (qs:List AV) (l:List RI):Prop:=qs.length = l.length /\ ∀ k (h:k < l.length),QV (qs.getD k .undef) l[k].q
theorem QsL.tail {v:AV} {qs:List AV} {x:RI} {l:List RI} (h:QsL (v :: qs) (x :: l)):QV v x.q /\ QsL qs l :=
 ⟨h.2 0 (by simp),by simpa using h.1,fun k hk => h.2 (k + 1) (by simpa using hk)⟩
theorem deep_rcl (P:Program) (σ:State) {v:AV} {x:RI} (hv:QV v x.q) (n:Nat) (h:2 * SizeOf.sizeOf x.q + 4 < n):deep P σ n (.agg (rcl v x)) = some (.agg (rcl v x)):=by
 obtain ⟨n,rfl⟩:∃ k,n = k + 3:=⟨n - 3,by omega⟩
 show ((rcl v x).mapM (deep P σ (n + 2))).map AV.agg = _
 rw [mapM_some]
 ·rfl
 ·intro y hy
  unfold rcl at hy
  simp only [List.mem_cons,List.not_mem_nil,or_false] at hy
  rcases hy with rfl | rfl | rfl | rfl
  ·rcases hv with rfl | ⟨rfl,_⟩
   ·show ((tcellL x.q).mapM (deep P σ (n + 1))).map _ = _
    rw [deep_tcellL P σ x.q (n + 1) (by omega)]; rfl
   ·rfl
  ·rfl
  ·rfl
  ·rfl
theorem deep_rLq (P:Program) (σ:State):∀ {qs:List AV} {l:List RI} (n:Nat),QsL qs l -> 2 * SizeOf.sizeOf l + 4 < n -> (rLq qs l).mapM (deep P σ n) = some (rLq qs l)
 | [],[],n,_,_ => rfl
 | [],x :: l,n,h,_ => by have:=h.1; simp at this
 | v :: qs,[],n,h,_ => by have:=h.1; simp at this
 | v :: qs,x :: l,n,h,hn => by
  obtain ⟨h1,h2⟩:=h.tail
  have h3:SizeOf.sizeOf x.q < SizeOf.sizeOf x:=by
   obtain ⟨q,a,b,c⟩:=x
   show SizeOf.sizeOf q < 1 + SizeOf.sizeOf q + _ + _ + _
   omega
  have h4:SizeOf.sizeOf (x :: l) = 1 + SizeOf.sizeOf x + SizeOf.sizeOf l:=rfl
  show ((AV.agg (rcl v x)) :: rLq qs l).mapM _ = _
  rw [List.mapM_cons,deep_rcl P σ h1 n (by omega),deep_rLq P σ n h2 (by omega)]; rfl
theorem chunk_rLq:∀ {qs:List AV} {l:List RI},qs.length = l.length -> chunk (some 4) (flat (rLq qs l)) l.length = rLq qs l
 | [],[],_ => rfl
 | [],x :: l,h => by simp at h
 | v :: qs,[],h => by simp at h
 | v :: qs,x :: l,h => by
  show chunk (some 4) (flat (.agg (rcl v x) :: rLq qs l)) (l.length + 1) = _
  rw [flat_cons]
  show AV.agg (((rcl v x) ++ flat (rLq qs l)).take 4) :: chunk (some 4) (((rcl v x) ++ flat (rLq qs l)).drop 4) l.length = _
  rw [List.take_left' (by rfl),List.drop_left' (by rfl),chunk_rLq (by simpa using h)]; rfl
theorem rLq_wk:∀ {qs:List AV} {l:List RI},QsL qs l -> WkL (flat (rLq qs l)) (flat (rL l)) /\ (rLq qs l).length = (rL l).length
 | [],[],_ => ⟨.nil,rfl⟩
 | [],x :: l,h => by have:=h.1; simp at this
 | v :: qs,[],h => by have:=h.1; simp at this
 | v :: qs,x :: l,h => by
  obtain ⟨h1,h2⟩:=h.tail
  obtain ⟨k1,k2⟩:=rLq_wk h2
  refine ⟨?_,?_⟩
  ·show WkL (flat (.agg (rcl v x) :: rLq qs l)) (flat (.agg (rcells x) :: rL l))
   rw [flat_cons,flat_cons]
   refine WkL.append (.cons ?_ (.refl _)) k1
   rcases h1 with rfl | ⟨rfl,h1⟩
   ·exact .refl _
   ·rw [h1]; exact Wk.nil 4
  ·show (rLq qs l).length + 1 = (rL l).length + 1
   rw [k2]
theorem rL_sz (l:List RI):∀ y ∈ rL l,y.cells.length = 4:=fun y hy => by
 unfold rL at hy
 obtain ⟨x,_,rfl⟩:=List.mem_map.1 hy
 rfl
theorem rL_one (l:List RI):(flat (rL l)).all AV.one = true:=by
 induction l with
 | nil => rfl
 | cons x l ih =>
  show (flat (.agg (rcells x) :: rL l)).all AV.one = true
  rw [flat_cons,List.all_append,ih]
  rfl
theorem kind164:kindT Tryz.prog 164 = some (some 4):=by kernel_rfl
theorem kind3:kindT Tryz.prog 3 = some none:=by kernel_rfl

def rmV (m:RM):AV:=.agg [.slice 4 (rL m.I) .any,.slice 1 (intsV m.turn) .any,.int .i64 (m.work:Int),.int .i64 (m.puts:Int)]
def RAt (σ:State) (v:AV) (m:RM):Prop:=v = rmV m \/ ∃ (c:MH) (id:Nat) (g:Bool) (tv:AV) (qs:List AV),v = .agg [.rslice id 0 m.I.length,tv,.int .i64 (m.work:Int),.int .i64 (m.puts:Int)] /\ QsL qs m.I /\ At c σ /\ c .ins = some (id,.cells (flat (rLq qs m.I)) 164 4 g) /\ RoAt c .turn 3 1 tv (intsV m.turn)

theorem deep_slice {P:Program} {σ:State} {sz:Nat} {xs ys:List AV} {m:Cap} {n:Nat} (h:xs.mapM (deep P σ n) = some ys):deep P σ (n + 1) (.slice sz xs m) = some (.slice sz ys (nnCap m)):=by
 show (xs.mapM (deep P σ n)).map _ = _
 rw [h]; rfl
theorem deep_rslice {P:Program} {σ:State} {n id off len e sz:Nat} {cs ys:List AV} {g:Bool} {k:Option Nat} (ho:σ.objs id = .cells cs e sz g) (hk:kindT P e = some k) (h1:k.getD 1 = sz) (h2:0 < sz) (h3:(off + len) * sz <= cs.length)
  (hm:(chunk k ((cs.drop (off * sz)).take (len * sz)) len).mapM (deep P σ n) = some ys):deep P σ (n + 1) (.rslice id off len) = some (.slice sz ys .nn):=by
 subst h1
 have hle:Nat.ble ((off + len) * k.getD 1) cs.length = true:=Nat.ble_eq_true_of_le h3
 have hlt:Nat.blt 0 (k.getD 1) = true:=Nat.ble_eq_true_of_le h2
 have hbq:Nat.beq (k.getD 1) (k.getD 1) = true:=Nat.beq_refl _
 simp only [deep,ho,hk,hle,hlt,hbq,Bool.and_self]
 rw [hm]; rfl
theorem deep_RAt {σ:State} {v:AV} {m:RM} (h:RAt σ v m) {n:Nat} (hn:2 * SizeOf.sizeOf m.I + 10 < n):∃ v',deep Tryz.prog σ n v = some v' /\ Wk v' (rmV m):=by
 obtain ⟨n,rfl⟩:∃ k,n = k + 3:=⟨n - 3,by omega⟩
 have hI:=deep_rL Tryz.prog σ m.I (n + 1) (by omega)
 have hT:=deep_intsV Tryz.prog σ m.turn n
 have done:∀ (a b a' b':AV),deep Tryz.prog σ (n + 2) a = some a' -> deep Tryz.prog σ (n + 2) b = some b' -> deep Tryz.prog σ (n + 3) (.agg [a,b,.int .i64 (m.work:Int),.int .i64 (m.puts:Int)]) = some (.agg [a',b',.int .i64 (m.work:Int),.int .i64 (m.puts:Int)]):=fun a b a' b' h1 h2 => by
  show ([a,b,.int .i64 (m.work:Int),.int .i64 (m.puts:Int)].mapM (deep Tryz.prog σ (n + 2))).map AV.agg = _
  simp only [List.mapM_cons,List.mapM_nil,h1,h2]
  rfl
 rcases h with rfl | ⟨c,id,g,tv,qs,rfl,hqs,hA,hi,ht⟩
 ·exact ⟨_,done _ _ _ _ (deep_slice hI) (deep_slice hT),Wk.refl _⟩
 ·have ha:deep Tryz.prog σ (n + 2) (.rslice id 0 m.I.length) = some (.slice 4 (rLq qs m.I) .nn):=by
   refine deep_rslice (hA.obj hi) kind164 rfl (by omega) (by rw [flat_rLq_len hqs.1]; omega) ?_
   rw [Nat.zero_mul,List.drop_zero,List.take_of_length_le (by rw [flat_rLq_len hqs.1]; omega),chunk_rLq hqs.1,deep_rLq Tryz.prog σ (n + 1) hqs (by omega)]
  have hwk:Wk (.slice 4 (rLq qs m.I) .nn) (.slice 4 (rL m.I) .any):=Wk.sliceL (rLq_wk hqs).2 (rLq_wk hqs).1 (rL_sz _) (rL_one _)
  rcases ht with ⟨rfl,hnil⟩ | ⟨tid,off,k,tg,pre,rfl,htc,hpl,hcl⟩
  ·refine ⟨_,done _ _ _ _ ha rfl,Wk.agg (.cons hwk (.cons ?_ (.refl _)))⟩
   rw [hnil]; exact Wk.nil 1
  ·have hb:deep Tryz.prog σ (n + 2) (.rslice tid off k) = some (.slice 1 (intsV m.turn) .nn):=by
    refine deep_rslice (hA.obj htc) kind3 rfl (by omega) (by rw [List.length_append]; omega) ?_
    rw [List.drop_left' hpl,List.take_of_length_le (by omega),chunk_one _ _ (by omega),List.take_of_length_le (by omega),hT]
   exact ⟨_,done _ _ _ _ ha hb,Wk.agg (.cons hwk (.cons (Wk.slice 1 _ _) (.refl _)))⟩
theorem rL_noId (l:List RI):∀ y ∈ flat (rL l),NoId y:=by
 induction l with
 | nil => intro y hy; cases hy
 | cons x l ih =>
  intro y hy
  have hy:y ∈ flat (.agg (rcells x) :: rL l):=hy
  rw [flat_cons] at hy
  rcases List.mem_append.1 hy with hy | hy
  ·have hy:y ∈ rcells x:=hy
   unfold rcells at hy
   simp only [List.mem_cons,List.not_mem_nil,or_false] at hy
   rcases hy with rfl | rfl | rfl | rfl
   ·exact .slice (by simp) (tcellL_noId x.q).2
   ·exact .bool _
   ·exact .bool _
   ·exact .int _ _
  ·exact ih y hy
theorem intsV_noId (l:List Nat):∀ y ∈ flat (intsV l),NoId y:=by
 induction l with
 | nil => intro y hy; cases hy
 | cons x l ih =>
  intro y hy
  have hy:y ∈ flat (.int .i64 (x:Int) :: intsV l):=hy
  rw [flat_cons] at hy
  rcases List.mem_append.1 hy with hy | hy
  ·have hy:y ∈ [AV.int .i64 (x:Int)]:=hy
   simp only [List.mem_cons,List.not_mem_nil,or_false] at hy
   subst hy; exact .int _ _
  ·exact ih y hy
theorem rmV_noId (m:RM):NoId (rmV m):=.agg fun y hy => by
 simp only [List.mem_cons,List.not_mem_nil,or_false] at hy
 rcases hy with rfl | rfl | rfl | rfl
 ·exact .slice (by simp) (rL_noId m.I)
 ·exact .slice (by simp) (intsV_noId m.turn)
 ·exact .int _ _
 ·exact .int _ _
end Go.V
/- Conditions: the reference's Close, Split. -/
namespace Go.V
open Go Go.Proofs

def H98 (E:Env):Hand:=hnd E annA noHints [(93,C93r),(94,C94r),(95,C95r)]
def N98:FnHint:=hAt [(4,3,hE4),(4,5,hE4)]
theorem vc98 (B:Nat) (w0:World) (G:Nat -> AV) (m:RM) (i:Int) (Q:AV -> State -> Prop):(bodyC (EV B w0 G) (H98 (EV B w0 G)) (fun _ _ _ _ => False) annA N98 98 [.agg [.slice 4 (rL m.I) .any,.slice 1 (intsV m.turn) .any,.int .i64 (m.work:Int),.int .i64 (m.puts:Int)],.int .i64 i] noObj Q) =
 ((∃ m0:RM,(∃ i1:Int,(([(AV.agg [(AV.slice 4 (rL (RM.I m)) Cap.any),(AV.slice 1 (intsV (RM.turn m)) Cap.any),(AV.int .i64 ((RM.work m:Nat):Int)),(AV.int .i64 ((RM.puts m:Nat):Int))]),(AV.int .i64 (i))] = [(AV.agg [(AV.slice 4 (rL (RM.I m0)) Cap.any),(AV.slice 1 (intsV (RM.turn m0)) Cap.any),(AV.int .i64 ((RM.work m0:Nat):Int)),(AV.int .i64 ((RM.puts m0:Nat):Int))]),(AV.int .i64 (i1))])/\
 (bcase (!(Option.isSome (RM.opened m0 i1)))
 (Q (AV.tuple [(AV.agg [(AV.slice 4 (rL (RM.I m)) Cap.any),(AV.slice 1 (intsV (RM.turn m)) Cap.any),(AV.int .i64 ((RM.work m:Nat):Int)),(AV.int .i64 ((RM.puts m:Nat):Int))]),(AV.int .i64 90)]) (noObj))
 (∃ m2:RM,(∃ c3:MH,(([(AV.agg [(AV.slice 4 (rL (RM.I m)) Cap.any),(AV.slice 1 (intsV (RM.turn m)) Cap.any),(AV.int .i64 ((RM.work m:Nat):Int)),(AV.int .i64 ((RM.puts m:Nat):Int))])] = [(AV.agg [(AV.slice 4 (rL (RM.I m2)) Cap.any),(AV.slice 1 (intsV (RM.turn m2)) Cap.any),(AV.int .i64 ((RM.work m2:Nat):Int)),(AV.int .i64 ((RM.puts m2:Nat):Int))])])/\
 (((At c3 (noObj))/\
 ((((List.length (RM.I m2)):Nat) <= 5000)/\
 ((((List.length (RM.turn m2)):Nat) <= 5000)/\
 ((RM.I m2) ≠ []))))/\
 (∀ id4:Nat,(∀ g5:Bool,(∀ tv6:AV,(∀ c'7:MH,(∀ σ'8:State,(((At c'7 σ'8)/\
 (((c'7 MRole.ins) = (Option.some (Prod.mk (id4) (AObj.cells (flat (rL (RM.I m2))) 164 4 (g5)))))/\
 ((SlAt c'7 MRole.turn 3 1 tv6 (intsV (RM.turn m2)))/\
 (∀ q9:MRole,(((q9 ∈ [MRole.ins,MRole.turn]) -> False) -> ((c'7 q9) = (c3 q9))))))) -> (bcase (true && (true && ((true && ((AV.one (tv6)) && (true && (true && true)))) && true)))
 (∃ a9:OE,(((State.objs σ'8 (id4)) = (AObj.cells (OE.cs a9) 164 4 (OE.g a9)))/\
 ((((0:Int) <= (i))/\
 (((i):Int) < (((List.length (RM.I m2)):Nat):Int)))/\
 (∃ a10:OE,(((State.objs σ'8 (id4)) = (AObj.cells (OE.cs a10) 164 4 (OE.g a10)))/\
 (((((((0 + (Int.toNat (i))) * 4) + 1) + 1):Nat) <= (List.length (OE.cs a10)))/\
 (∃ m11:RM,(∃ c12:MH,(∃ id13:Nat,(∃ g14:Bool,(∃ tv15:AV,(∃ qs16:List AV,(([(AV.agg [(AV.rslice (id4) 0 (List.length (RM.I m2))),(tv6),(AV.int .i64 (IntKind.wrap .i64 (((RM.work m2:Nat):Int) + 1))),(AV.int .i64 ((RM.puts m2:Nat):Int))])] = [(AV.agg [(AV.rslice (id13) 0 (List.length (RM.I m11))),(tv15),(AV.int .i64 ((RM.work m11:Nat):Int)),(AV.int .i64 ((RM.puts m11:Nat):Int))])])/\
 (((At c12 (State.set σ'8 (id4) (AObj.cells (asplice (OE.cs a10) (((0 + (Int.toNat (i))) * 4) + 1) [(AV.bool false)]) 164 4 (OE.g a10))))/\
 (((c12 MRole.ins) = (Option.some (Prod.mk (id13) (AObj.cells (flat (rLq qs16 (RM.I m11))) 164 4 (g14)))))/\
 (((((tv15) = AV.nilslice)/\
 ((intsV (RM.turn m11)) = [])) \/ (∃ id17:Nat,(∃ off18:Nat,(∃ n19:Nat,(∃ g20:Bool,(∃ pre21:List AV,(((tv15) = (AV.rslice (id17) (off18) (n19)))/\
 (((c12 MRole.turn) = (Option.some (Prod.mk (id17) (AObj.cells ((pre21) ++ (intsV (RM.turn m11))) 3 1 (g20)))))/\
 ((((List.length (pre21)):Nat) = ((off18) * 1))/\
 (((List.length (intsV (RM.turn m11))):Nat) = ((n19) * 1)))))))))))/\
 ((((List.length (RM.I m11)):Nat) <= 5000)/\
 ((((List.length (RM.turn m11)):Nat) <= 5000)/\
 ((∀ i17:Nat,((((i17):Nat) < (List.length (RM.I m11))) -> (((RI.fr (RM.at m11 i17)) = false) -> (((0:Int) <= (RI.bh (RM.at m11 i17)))/\
 (((RI.bh (RM.at m11 i17)):Int) < ((i17:Nat):Int))))))/\
 (QsOk qs16 m11)))))))/\
 (∀ tv'17:AV,(∀ c'18:MH,(∀ σ'19:State,(((At c'18 σ'19)/\
 (((c'18 MRole.ins) = (Option.some (Prod.mk (id13) (AObj.cells (flat (rLq qs16 (RM.I (RM.fresh m11)))) 164 4 (g14)))))/\
 (((((tv'17) = AV.nilslice)/\
 ((intsV (RM.turn (RM.fresh m11))) = [])) \/ (∃ id20:Nat,(∃ off21:Nat,(∃ n22:Nat,(∃ g23:Bool,(∃ pre24:List AV,(((tv'17) = (AV.rslice (id20) (off21) (n22)))/\
 (((c'18 MRole.turn) = (Option.some (Prod.mk (id20) (AObj.cells ((pre24) ++ (intsV (RM.turn (RM.fresh m11)))) 3 1 (g23)))))/\
 ((((List.length (pre24)):Nat) = ((off21) * 1))/\
 (((List.length (intsV (RM.turn (RM.fresh m11)))):Nat) = ((n22) * 1)))))))))))/\
 ((∀ q20:MRole,(((q20 ∈ [MRole.ins,MRole.turn]) -> False) -> ((c'18 q20) = (c12 q20))))/\
 (((tv15) ≠ AV.nilslice) -> ((tv'17) ≠ AV.nilslice)))))) -> (bcase (true && (true && ((true && ((AV.one (tv'17)) && (true && (true && true)))) && true)))
 (Q (AV.tuple [(AV.agg [(AV.rslice (id13) 0 (List.length (RM.I m11))),(tv'17),(AV.int .i64 ((RM.work m11:Nat):Int)),(AV.int .i64 ((RM.puts m11:Nat):Int))]),(AV.int .i64 0)]) σ'19)
 False)))))))))))))))))))
 False)))))))))))))))):=by kernel_rfl
end Go.V
/- The reference's Close. -/
namespace Go.V
open Go Go.Proofs

theorem fresh_len (m:RM):m.fresh.I.length = m.I.length:=mj_len m _
theorem sliceQ_get {l:List RI} {k:Nat} (h:k < l.length):(sliceQ l).getD k .undef = .slice 4 (tcellL l[k].q) .any:=by
 unfold sliceQ; rw [List.getD,List.getElem?_map,List.getElem?_eq_getElem h]; rfl
theorem qsOk_slice {m m':RM} (hl:m'.I.length = m.I.length) (hq:∀ k,(m'.at k).q = (m.at k).q) (hr:m'.Ranked):QsOk (sliceQ m.I) m' where
 len:=(List.length_map _).trans hl.symm
 ok k hk:=.inl (by rw [sliceQ_get (by omega),at_get (by omega),hq])
 old i hi hf:=by
  have:=hr i hi hf
  rw [sliceQ_get (by omega),at_get (by omega),hq]
theorem QsOk.l {qs:List AV} {m:RM} (h:QsOk qs m):QsL qs m.I:=⟨h.len,fun k hk => by rw [at_get hk]; exact h.ok k hk⟩
theorem QsOk.fresh {qs:List AV} {m:RM} (h:QsOk qs m):QsL qs m.fresh.I:=⟨h.len.trans (fresh_len m).symm,fun k hk => by
 have hk':k < m.I.length:=by rw [fresh_len] at hk; exact hk
 rw [at_get hk]
 have e:(m.fresh.at k).q = (m.at k).q:=(mj_q m m.I.length k).1
 rw [e]; exact h.ok k hk'⟩
theorem RAt.fresh {σ:State} {c:MH} {id:Nat} {g:Bool} {tv:AV} {qs:List AV} {m:RM} (hqs:QsOk qs m) (hA:At c σ) (hi:c .ins = some (id,.cells (flat (rLq qs m.fresh.I)) 164 4 g)) (ht:RoAt c .turn 3 1 tv (intsV m.fresh.turn)) :
  RAt σ (.agg [.rslice id 0 m.I.length,tv,.int .i64 (m.work:Int),.int .i64 (m.puts:Int)]) m.fresh:=by
 refine .inr ⟨c,id,g,tv,qs,?_,hqs.fresh,hA,hi,ht⟩
 obtain ⟨h1,h2⟩:=fresh_work m
 rw [fresh_len,h1,h2]
theorem RoAt.one {c:MH} {r:MRole} {e sz:Nat} {v:AV} {cs:List AV} (h:RoAt c r e sz v cs):v.one = true:=by
 rcases h with ⟨rfl,_⟩ | ⟨_,_,_,_,_,rfl,_⟩ <;> rfl

def C98v:Contract:=fun args σ K => ∃ (m:RM) (i:Int),args = [rmV m,.int .i64 i] /\ m.Wf /\ K (.tuple [rmV (m.close i).1,.int .i64 (m.close i).2]) σ.untok

section
variable {B:Nat} {w0:World} {G:Nat -> AV}
variable (hG:∀ i,NoId (G i))
include hG
theorem pureR {f:Nat} {args:List AV} {m':RM} {e:Int} {Q:AV -> State -> Prop} {σ:State} (ha:∀ x ∈ args,NoId x) (h:ACalls (EV B w0 G) f args noObj (fun v σ' => ∃ rv,v = .tuple [rv,.int .i64 e] /\ RAt σ' rv m'))
  (hQ:Q (.tuple [rmV m',.int .i64 e]) σ.untok):ACalls (EV B w0 G) f args σ Q:=by
 refine .pureD (2 * SizeOf.sizeOf m'.I + 12) hG ha h fun v σ' ⟨rv,hv,hr⟩ => ?_
 subst hv
 obtain ⟨v',h1,h2⟩:=deep_RAt hr (n:=2 * SizeOf.sizeOf m'.I + 11) (by omega)
 refine ⟨.tuple [v',.int .i64 e],_,?_,Wk.tuple (.cons h2 (.refl _)),.tuple fun y hy => ?_,hQ⟩
 ·show ([rv,.int .i64 e].mapM (deep Tryz.prog σ' (2 * SizeOf.sizeOf m'.I + 11))).map AV.tuple = _
  simp only [List.mapM_cons,List.mapM_nil,h1]
  rfl
 ·simp only [List.mem_cons,List.not_mem_nil,or_false] at hy
  rcases hy with rfl | rfl
  ·exact rmV_noId m'
  ·exact .int _ _
omit hG in
theorem H98_ok:HOk1 (EV B w0 G) (H98 (EV B w0 G)):=hnd_ok (EV_mixed B w0 G) (contracts_cons c93_ok (contracts_cons c94_ok (contracts_cons c95_ok contracts_nil)))

theorem c98_ok:ContractOk (EV B w0 G) 98 C98v:=by
 rintro args σ Q ⟨m,i,rfl,hW,hQ⟩
 refine pureR hG (fun y hy => ?_) ?_ hQ
 ·simp only [List.mem_cons,List.not_mem_nil,or_false] at hy
  rcases hy with rfl | rfl
  ·exact rmV_noId m
  ·exact .int _ _
 have hlen:=hW.w.len
 have htl:=nd_len hW.w
 have hwk:=hW.w.work
 refine bodyC_ok (EV_mixed B w0 G) H98_ok (fun l hl _ Q a σ k => k.elim) ((vc98 B w0 G m i _).mpr ?_)
 refine ⟨m,i,rfl,bcase_of (fun h => ?_) (fun h => ?_)⟩
 ·have ho:m.opened i = none:=by
   cases ho:m.opened i with
   | none => rfl
   | some k => rw [ho] at h; cases h
  have e:m.close i = (m,90):=by unfold RM.close; rw [ho]
  rw [e]
  exact ⟨_,rfl,.inl rfl⟩
 ·obtain ⟨k,ho⟩:∃ k,m.opened i = some k:=by
   cases ho:m.opened i with
   | none => rw [ho] at h; cases h
   | some k => exact ⟨k,rfl⟩
  have e:m.close i = ((m.shut k).fresh,0):=by unfold RM.close; rw [ho]
  rw [e]
  obtain ⟨rfl,hk,hop⟩:=opened_some ho
  have hsl:(m.shut k).I.length = m.I.length:=List.length_set
  obtain ⟨w1,_,_,_⟩:=shut_wf hW hk hop
  have ww:IntKind.wrap .i64 ((m.work:Int) + 1) = ((m.work + 1:Nat):Int):=by rw [wr_small (by omega) (by omega)]; omega
  refine ⟨m,noneH,rfl,⟨noneH_at _,by omega,by omega,fun h => by rw [h] at hk; simp at hk⟩,fun id g tv c' σ' ⟨g1,g2,g3,g4⟩ => ?_⟩
  have h1:=g3.one
  refine bcase_of (fun _ => ?_) (fun h => by rw [h1] at h; cases h)
  refine ⟨⟨flat (rL m.I),g⟩,g1.obj g2,⟨by omega,by omega⟩,⟨flat (rL m.I),g⟩,g1.obj g2,by rw [Int.toNat_natCast]; show (0 + k) * 4 + 1 + 1 <= (flat (rL m.I)).length; rw [flat_rL_len]; omega,?_⟩
  have hset:asplice (flat (rL m.I)) ((0 + Int.toNat (k:Int)) * 4 + 1) [.bool false] = flat (rLq (sliceQ m.I) (m.shut k).I):=by
   rw [Int.toNat_natCast,Nat.zero_add,<-rLq_slice]
   exact rset (List.length_map _) hk (by omega) (by rw [at_get hk]; rfl)
  have hsq:∀ j,((m.shut k).at j).q = (m.at j).q:=fun j => by
   rw [RM.set_at (m:=m.shut k) (I:=m.I) rfl hk]
   split
   ·rename_i e; rw [e]
   ·rfl
  have hqs:=qsOk_slice hsl hsq w1.ranked
  obtain ⟨c2,k1,k2,k3⟩:∃ c2:MH,At c2 (σ'.set id (.cells (flat (rLq (sliceQ m.I) (m.shut k).I)) 164 4 g)) /\ c2 .ins = some (id,.cells (flat (rLq (sliceQ m.I) (m.shut k).I)) 164 4 g) /\ c2 .turn = c' .turn:=⟨_,g1.set g2 _,hup_self,hup_ne (by simp)⟩
  refine ⟨m.shut k,c2,id,g,tv,sliceQ m.I,?_,⟨?_,k2,(g3.congr k3).ro,by omega,by show m.turn.length <= _; omega,w1.ranked,hqs⟩,fun tv2 c3 σ3 ⟨j1,j2,j3,_,_⟩ => ?_⟩
  ·rw [ww,hsl]; rfl
  ·dsimp only; rw [hset]; exact k1
  ·have j3:RoAt c3 .turn 3 1 tv2 (intsV (m.shut k).fresh.turn):=j3
   have h2:=j3.one
   exact bcase_of (fun _ => ⟨_,rfl,RAt.fresh hqs j1 j2 j3⟩) (fun h => by rw [h2] at h; cases h)
end
end Go.V
/- Conditions: the reference's Next. -/
namespace Go.V
open Go Go.Proofs

def C94t:Contract:=fun args σ K => ∃ (m:RM) (c:MH),args = [.agg [.slice 4 (rL m.I) .any,.slice 1 (intsV m.turn) .any,.int .i64 (m.work:Int),.int .i64 (m.puts:Int)]] /\ (At c σ /\ m.I.length <= 5000 /\ m.turn.length <= 5000 /\ m.I ≠ [] /\ m.turn ≠ []) /\
 ∀ (id:Nat) (g:Bool) (tid:Nat) (tg:Bool) (c':MH) (σ':State),(At c' σ' /\ c' .ins = some (id,.cells (flat (rL m.I)) 164 4 g) /\ c' .turn = some (tid,.cells (intsV m.turn) 3 1 tg) /\ Same c c' [.ins,.turn]) -> K (.agg [.rslice id 0 m.I.length,.rslice tid 0 m.turn.length,.int .i64 (m.work:Int),.int .i64 (m.puts:Int)]) σ'
def C95t:Contract:=fun args σ K => ∃ (m:RM) (c:MH) (id:Nat) (g:Bool) (t0 o0 k0:Nat) (qs:List AV),args = [.agg [.rslice id 0 m.I.length,.rslice t0 o0 k0,.int .i64 (m.work:Int),.int .i64 (m.puts:Int)]] /\
 (At c σ /\ c .ins = some (id,.cells (flat (rLq qs m.I)) 164 4 g) /\ RoAt c .turn 3 1 (.rslice t0 o0 k0) (intsV m.turn) /\ m.I.length <= 5000 /\ m.turn.length <= 5000 /\ m.Ranked /\ QsOk qs m) /\
 ∀ (tid off k:Nat) (c':MH) (σ':State),(At c' σ' /\ c' .ins = some (id,.cells (flat (rLq qs m.fresh.I)) 164 4 g) /\ RoAt c' .turn 3 1 (.rslice tid off k) (intsV m.fresh.turn) /\ Same c c' [.ins,.turn]) -> K (.agg [.rslice id 0 m.I.length,.rslice tid off k,.int .i64 (m.work:Int),.int .i64 (m.puts:Int)]) σ'
def H99 (E:Env):Hand:=hnd E annA noHints [(94,C94t),(95,C95t)]
def A99:Nat -> FnAnn:=fun f => match Nat.beq f 99 with
 | true => ⟨fun id i => match Nat.beq id 10 && Nat.beq i 4 with
  | true => .off
  | false => .none,luk [] [(6,[12]),(12,[2,3])]⟩
 | false => annA f
def hTm99:Hint:=Hint.as (fun t:T => .vptr [.int .i64 t.k,.int .i64 t.n,.str t.s,.slice 4 (tcellL t.l) .any])
def N99:FnHint:=hAt [(4,2,hEl 3 1),(4,3,hElInt),(5,4,hE4),(5,6,hE4Q),(5,7,hTm99),(6,6,hE4),(6,8,hE4Q),(6,9,Hint.as (fun l:List T => AV.slice 4 (tcellL l) .any)),(6,10,hE4),(6,12,hE4),(7,2,hEl 3 1),(9,3,hE4),(9,5,hE4Q),(10,4,hEl 3 1)]
theorem vc99 (B:Nat) (w0:World) (G:Nat -> AV) (m:RM) (Q:AV -> State -> Prop):(bodyC (EV B w0 G) (H99 (EV B w0 G)) (fun _ _ _ _ => False) A99 N99 99 [.agg [.slice 4 (rL m.I) .any,.slice 1 (intsV m.turn) .any,.int .i64 (m.work:Int),.int .i64 (m.puts:Int)]] noObj Q) =
 ((bcase (((((List.length (intsV (RM.turn m))):Nat):Int):Int) == 0)
 (Q (AV.tuple [(AV.agg [(AV.slice 4 (rL (RM.I m)) Cap.any),(AV.slice 1 (intsV (RM.turn m)) Cap.any),(AV.int .i64 ((RM.work m:Nat):Int)),(AV.int .i64 ((RM.puts m:Nat):Int))]),(AV.agg [(AV.int .i64 0),(AV.int .i64 0),(AV.int .i64 0),(AV.str ⟨⟨[]⟩⟩),AV.nilslice]),(AV.bool false)]) (noObj))
 (∃ m0:RM,(∃ c1:MH,(([(AV.agg [(AV.slice 4 (rL (RM.I m)) Cap.any),(AV.slice 1 (intsV (RM.turn m)) Cap.any),(AV.int .i64 ((RM.work m:Nat):Int)),(AV.int .i64 ((RM.puts m:Nat):Int))])] = [(AV.agg [(AV.slice 4 (rL (RM.I m0)) Cap.any),(AV.slice 1 (intsV (RM.turn m0)) Cap.any),(AV.int .i64 ((RM.work m0:Nat):Int)),(AV.int .i64 ((RM.puts m0:Nat):Int))])])/\
 (((At c1 (noObj))/\
 ((((List.length (RM.I m0)):Nat) <= 5000)/\
 ((((List.length (RM.turn m0)):Nat) <= 5000)/\
 (((RM.I m0) ≠ [])/\
 ((RM.turn m0) ≠ [])))))/\
 (∀ id2:Nat,(∀ g3:Bool,(∀ tid4:Nat,(∀ tg5:Bool,(∀ c'6:MH,(∀ σ'7:State,(((At c'6 σ'7)/\
 (((c'6 MRole.ins) = (Option.some (Prod.mk (id2) (AObj.cells (flat (rL (RM.I m0))) 164 4 (g3)))))/\
 (((c'6 MRole.turn) = (Option.some (Prod.mk (tid4) (AObj.cells (intsV (RM.turn m0)) 3 1 (tg5)))))/\
 (∀ q8:MRole,(((q8 ∈ [MRole.ins,MRole.turn]) -> False) -> ((c'6 q8) = (c1 q8))))))) -> (∃ a8:OE,(((State.objs σ'7 (tid4)) = (AObj.cells (OE.cs a8) 3 1 (OE.g a8)))/\
 ((((0:Int) <= 0)/\
 ((0:Int) < (((List.length (RM.turn m0)):Nat):Int)))/\
 (∃ a9:OE,(((State.objs σ'7 (tid4)) = (AObj.cells (OE.cs a9) 3 1 (OE.g a9)))/\
 (((0:Nat) < (List.length (OE.cs a9)))/\
 (∃ x10:Nat,(((List.getD (OE.cs a9) 0 AV.undef) = (AV.int .i64 ((x10:Nat):Int)))/\
 (∃ a11:OE,(((State.objs σ'7 (id2)) = (AObj.cells (OE.cs a11) 164 4 (OE.g a11)))/\
 ((((0:Int) <= ((x10:Nat):Int))/\
 ((((x10:Nat):Int):Int) < (((List.length (RM.I m0)):Nat):Int)))/\
 (∃ a12:OE,(((State.objs σ'7 (id2)) = (AObj.cells (OE.cs a12) 164 4 (OE.g a12)))/\
 ((((((0 + (Int.toNat ((x10:Nat):Int))) * 4) + 0):Nat) < (List.length (OE.cs a12)))/\
 (∃ x13:List T,(((List.getD (OE.cs a12) ((0 + Int.toNat (↑x10:Int)) * 4 + 0) AV.undef) = (AV.slice 4 (tcellL x13) Cap.any))/\
 ((((0:Int) <= 0)/\
 ((0:Int) < (((List.length (tcellL x13)):Nat):Int)))/\
 (∃ x14:T,(((AV.vptr (AV.cells (List.getD (tcellL x13) 0 AV.undef))) = (AV.vptr [(AV.int .i64 (T.k x14)),(AV.int .i64 (T.n x14)),(AV.str (T.s x14)),(AV.slice 4 (tcellL (T.l x14)) Cap.any)]))/\
 (∃ a15:OE,(((State.objs σ'7 (id2)) = (AObj.cells (OE.cs a15) 164 4 (OE.g a15)))/\
 ((((0:Int) <= ((x10:Nat):Int))/\
 ((((x10:Nat):Int):Int) < (((List.length (RM.I m0)):Nat):Int)))/\
 (∃ a16:OE,(((State.objs σ'7 (id2)) = (AObj.cells (OE.cs a16) 164 4 (OE.g a16)))/\
 ((((((0 + (Int.toNat ((x10:Nat):Int))) * 4) + 0):Nat) < (List.length (OE.cs a16)))/\
 (∃ x17:List T,(((List.getD (OE.cs a16) ((0 + Int.toNat (↑x10:Int)) * 4 + 0) AV.undef) = (AV.slice 4 (tcellL x17) Cap.any))/\
 ((((0:Int) <= 1)/\
 ((1:Int) <= (((List.length (tcellL x17)):Nat):Int)))/\
 (∃ x18:List T,(((AV.slice 4 (List.drop 1 (List.take (List.length (tcellL x17)) (tcellL x17))) Cap.any) = (AV.slice 4 (tcellL x18) Cap.any))/\
 (∃ a19:OE,(((State.objs σ'7 (id2)) = (AObj.cells (OE.cs a19) 164 4 (OE.g a19)))/\
 ((((0:Int) <= ((x10:Nat):Int))/\
 ((((x10:Nat):Int):Int) < (((List.length (RM.I m0)):Nat):Int)))/\
 (∃ a20:OE,(((State.objs σ'7 (id2)) = (AObj.cells (OE.cs a20) 164 4 (OE.g a20)))/\
 (((((((0 + (Int.toNat ((x10:Nat):Int))) * 4) + 0) + 1):Nat) <= (List.length (OE.cs a20)))/\
 (∃ a21:OE,(((State.objs (State.set σ'7 (id2) (AObj.cells (asplice (OE.cs a20) (((0 + (Int.toNat ((x10:Nat):Int))) * 4) + 0) [(AV.slice 4 (tcellL x18) Cap.any)]) 164 4 (OE.g a20))) (tid4)) = (AObj.cells (OE.cs a21) 3 1 (OE.g a21)))/\
 ((((0:Int) <= 1)/\
 ((1:Int) <= (((List.length (RM.turn m0)):Nat):Int)))/\
 (∃ m22:RM,(∃ c23:MH,(∃ id24:Nat,(∃ g25:Bool,(∃ t026:Nat,(∃ o027:Nat,(∃ k028:Nat,(∃ qs29:List AV,(([(AV.agg [(AV.rslice (id2) 0 (List.length (RM.I m0))),(AV.rslice (tid4) 1 ((List.length (RM.turn m0)) - 1)),(AV.int .i64 ((RM.work m0:Nat):Int)),(AV.int .i64 ((RM.puts m0:Nat):Int))])] = [(AV.agg [(AV.rslice (id24) 0 (List.length (RM.I m22))),(AV.rslice (t026) (o027) (k028)),(AV.int .i64 ((RM.work m22:Nat):Int)),(AV.int .i64 ((RM.puts m22:Nat):Int))])])/\
 (((At c23 (State.set σ'7 (id2) (AObj.cells (asplice (OE.cs a20) (((0 + (Int.toNat ((x10:Nat):Int))) * 4) + 0) [(AV.slice 4 (tcellL x18) Cap.any)]) 164 4 (OE.g a20))))/\
 (((c23 MRole.ins) = (Option.some (Prod.mk (id24) (AObj.cells (flat (rLq qs29 (RM.I m22))) 164 4 (g25)))))/\
 (((((AV.rslice (t026) (o027) (k028)) = AV.nilslice)/\
 ((intsV (RM.turn m22)) = [])) \/ (∃ id30:Nat,(∃ off31:Nat,(∃ n32:Nat,(∃ g33:Bool,(∃ pre34:List AV,(((AV.rslice (t026) (o027) (k028)) = (AV.rslice (id30) (off31) (n32)))/\
 (((c23 MRole.turn) = (Option.some (Prod.mk (id30) (AObj.cells ((pre34) ++ (intsV (RM.turn m22))) 3 1 (g33)))))/\
 ((((List.length (pre34)):Nat) = ((off31) * 1))/\
 (((List.length (intsV (RM.turn m22))):Nat) = ((n32) * 1)))))))))))/\
 ((((List.length (RM.I m22)):Nat) <= 5000)/\
 ((((List.length (RM.turn m22)):Nat) <= 5000)/\
 ((∀ i30:Nat,((((i30):Nat) < (List.length (RM.I m22))) -> (((RI.fr (RM.at m22 i30)) = false) -> (((0:Int) <= (RI.bh (RM.at m22 i30)))/\
 (((RI.bh (RM.at m22 i30)):Int) < ((i30:Nat):Int))))))/\
 (QsOk qs29 m22)))))))/\
 (∀ tid30:Nat,(∀ off31:Nat,(∀ k32:Nat,(∀ c'33:MH,(∀ σ'34:State,(((At c'33 σ'34)/\
 (((c'33 MRole.ins) = (Option.some (Prod.mk (id24) (AObj.cells (flat (rLq qs29 (RM.I (RM.fresh m22)))) 164 4 (g25)))))/\
 (((((AV.rslice (tid30) (off31) (k32)) = AV.nilslice)/\
 ((intsV (RM.turn (RM.fresh m22))) = [])) \/ (∃ id35:Nat,(∃ off36:Nat,(∃ n37:Nat,(∃ g38:Bool,(∃ pre39:List AV,(((AV.rslice (tid30) (off31) (k32)) = (AV.rslice (id35) (off36) (n37)))/\
 (((c'33 MRole.turn) = (Option.some (Prod.mk (id35) (AObj.cells ((pre39) ++ (intsV (RM.turn (RM.fresh m22)))) 3 1 (g38)))))/\
 ((((List.length (pre39)):Nat) = ((off36) * 1))/\
 (((List.length (intsV (RM.turn (RM.fresh m22)))):Nat) = ((n37) * 1)))))))))))/\
 (∀ q35:MRole,(((q35 ∈ [MRole.ins,MRole.turn]) -> False) -> ((c'33 q35) = (c23 q35))))))) -> (∃ a35:OE,(((State.objs σ'34 (id24)) = (AObj.cells (OE.cs a35) 164 4 (OE.g a35)))/\
 ((((0:Int) <= ((x10:Nat):Int))/\
 ((((x10:Nat):Int):Int) < (((List.length (RM.I m22)):Nat):Int)))/\
 (∃ a36:OE,(((State.objs σ'34 (id24)) = (AObj.cells (OE.cs a36) 164 4 (OE.g a36)))/\
 ((((((0 + (Int.toNat ((x10:Nat):Int))) * 4) + 0):Nat) < (List.length (OE.cs a36)))/\
 (∃ x37:List T,(((List.getD (OE.cs a36) ((0 + Int.toNat (↑x10:Int)) * 4 + 0) AV.undef) = (AV.slice 4 (tcellL x37) Cap.any))/\
 (bcase (decide (((((List.length (tcellL x37)):Nat):Int):Int) > 0))
 (∃ a38:OE,(((State.objs σ'34 (tid30)) = (AObj.cells (OE.cs a38) 3 1 (OE.g a38)))/\
 ((((((((k32) + 1) * 8):Nat) <= 140737488355328)/\
 ((((k32) + 1):Nat) <= 4611686018427387904))/\
 (((((off31) + (k32)) * 1):Nat) <= (List.length (OE.cs a38))))/\
 (((Rf (TV.v (AV.agg [(AV.int .i64 ((x10:Nat):Int)),(AV.int .i64 (T.k x14)),(AV.int .i64 (T.n x14)),(AV.str (T.s x14)),(AV.slice 4 (tcellL (T.l x14)) Cap.any)])))/\
 (Q (AV.tuple [(AV.agg [(AV.rslice (id24) 0 (List.length (RM.I m22))),(AV.rslice (State.next σ'34) (off31) ((k32) + 1)),(AV.int .i64 (IntKind.wrap .i64 (((RM.work m22:Nat):Int) + 1))),(AV.int .i64 ((RM.puts m22:Nat):Int))]),(AV.agg [(AV.int .i64 ((x10:Nat):Int)),(AV.int .i64 (T.k x14)),(AV.int .i64 (T.n x14)),(AV.str (T.s x14)),(AV.slice 4 (tcellL (T.l x14)) Cap.any)]),(AV.bool true)]) (State.new (State.set σ'34 (tid30) AObj.dead) (AObj.cells ((List.take (((off31) + (k32)) * 1) (OE.cs a38)) ++ [(AV.int .i64 ((x10:Nat):Int))]) 3 1 true))))/\
 ((Rf (TV.v (AV.agg [(AV.int .i64 ((x10:Nat):Int)),(AV.int .i64 (T.k x14)),(AV.int .i64 (T.n x14)),(AV.str (T.s x14)),(AV.slice 4 (tcellL (T.l x14)) Cap.any)])))/\
 (Q (AV.tuple [(AV.agg [(AV.rslice (id24) 0 (List.length (RM.I m22))),(AV.rslice (State.next σ'34) 0 ((k32) + 1)),(AV.int .i64 (IntKind.wrap .i64 (((RM.work m22:Nat):Int) + 1))),(AV.int .i64 ((RM.puts m22:Nat):Int))]),(AV.agg [(AV.int .i64 ((x10:Nat):Int)),(AV.int .i64 (T.k x14)),(AV.int .i64 (T.n x14)),(AV.str (T.s x14)),(AV.slice 4 (tcellL (T.l x14)) Cap.any)]),(AV.bool true)]) (State.new (State.set σ'34 (tid30) AObj.dead) (AObj.cells ((List.take ((k32) * 1) (List.drop ((off31) * 1) (OE.cs a38))) ++ [(AV.int .i64 ((x10:Nat):Int))]) 3 1 true))))))))
 ((Rf (TV.v (AV.agg [(AV.int .i64 ((x10:Nat):Int)),(AV.int .i64 (T.k x14)),(AV.int .i64 (T.n x14)),(AV.str (T.s x14)),(AV.slice 4 (tcellL (T.l x14)) Cap.any)])))/\
 (Q (AV.tuple [(AV.agg [(AV.rslice (id24) 0 (List.length (RM.I m22))),(AV.rslice (tid30) (off31) (k32)),(AV.int .i64 (IntKind.wrap .i64 (((RM.work m22:Nat):Int) + 1))),(AV.int .i64 ((RM.puts m22:Nat):Int))]),(AV.agg [(AV.int .i64 ((x10:Nat):Int)),(AV.int .i64 (T.k x14)),(AV.int .i64 (T.n x14)),(AV.str (T.s x14)),(AV.slice 4 (tcellL (T.l x14)) Cap.any)]),(AV.bool true)]) σ'34))))))))))))))))))))))))))))))))))))))))))))))))))))))))))))))))))))))))))))))):=by kernel_rfl
end Go.V
/- The reference's Next, over values. -/
namespace Go.V
open Go Go.Proofs

theorem freshAt_work (m:RM) (w i:Nat):freshAt { m with work:=w } i = { freshAt m i with work:=w }:=by
 unfold freshAt
 show (if !(m.at i).fr && ((m.at (m.at i).bh.toNat).fr && (m.at (m.at i).bh.toNat).dead) then _ else _) = _
 split <;> rfl
theorem mj_work (m:RM) (w j:Nat):mj { m with work:=w } j = { mj m j with work:=w }:=by
 induction j with
 | zero => rfl
 | succ j ih => rw [mj_succ,mj_succ,ih,freshAt_work]
theorem fresh_setwork (m:RM) (w:Nat):({ m with work:=w }:RM).fresh = { m.fresh with work:=w }:=mj_work m w m.I.length
theorem sliceQ_len (l:List RI):(sliceQ l).length = l.length:=List.length_map _
theorem deep_itemC (P:Program) (σ:State) (x:Nat × T) (n:Nat) (h:2 * SizeOf.sizeOf x.2.l + 4 < n):deep P σ n (itemC x) = some (itemC x):=by
 obtain ⟨n,rfl⟩:∃ k,n = k + 2:=⟨n - 2,by omega⟩
 show ([AV.int .i64 (x.1:Int),.int .i64 x.2.k,.int .i64 x.2.n,.str x.2.s,.slice 4 (tcellL x.2.l) .any].mapM (deep P σ (n + 1))).map AV.agg = _
 rw [mapM_some]
 ·rfl
 ·intro y hy
  simp only [List.mem_cons,List.not_mem_nil,or_false] at hy
  rcases hy with rfl | rfl | rfl | rfl | rfl
  ·rfl
  ·rfl
  ·rfl
  ·rfl
  ·show ((tcellL x.2.l).mapM (deep P σ n)).map _ = _
   rw [deep_tcellL P σ x.2.l n (by omega)]; rfl
theorem itemC_noId (x:Nat × T):NoId (itemC x):=.agg fun y hy => by
 simp only [List.mem_cons,List.not_mem_nil,or_false] at hy
 rcases hy with rfl | rfl | rfl | rfl | rfl
 ·exact .int _ _
 ·exact .int _ _
 ·exact .int _ _
 ·exact .str _
 ·exact .slice (by simp) (tcellL_noId x.2.l).2
def item0:AV:=.agg [.int .i64 0,.int .i64 0,.int .i64 0,.str ⟨⟨[]⟩⟩,.nilslice]
theorem item0_noId:NoId item0:=.agg fun y hy => by
 simp only [List.mem_cons,List.not_mem_nil,or_false] at hy
 rcases hy with rfl | rfl | rfl | rfl | rfl
 ·exact .int _ _
 ·exact .int _ _
 ·exact .int _ _
 ·exact .str _
 ·exact .nilslice
def itO:Option (Nat × T) -> List AV
 | none => [item0,.bool false]
 | some x => [itemC x,.bool true]
theorem itO_noId (o:Option (Nat × T)):∀ y ∈ itO o,NoId y:=by
 intro y hy
 cases o with
 | none =>
  simp only [itO,List.mem_cons,List.not_mem_nil,or_false] at hy
  rcases hy with rfl | rfl
  ·exact item0_noId
  ·exact .bool _
 | some x =>
  simp only [itO,List.mem_cons,List.not_mem_nil,or_false] at hy
  rcases hy with rfl | rfl
  ·exact itemC_noId x
  ·exact .bool _
theorem itO_deep (P:Program) (o:Option (Nat × T)):∃ N,∀ σ n,N <= n -> (itO o).mapM (deep P σ n) = some (itO o):=by
 cases o with
 | none => exact ⟨3,fun σ n h => by obtain ⟨n,rfl⟩:∃ k,n = k + 3:=⟨n - 3,by omega⟩; rfl⟩
 | some x => exact ⟨2 * SizeOf.sizeOf x.2.l + 5,fun σ n h => mapM_some fun y hy => by
   simp only [itO,List.mem_cons,List.not_mem_nil,or_false] at hy
   rcases hy with rfl | rfl
   ·exact deep_itemC P σ x n (by omega)
   ·obtain ⟨n,rfl⟩:∃ k,n = k + 1:=⟨n - 1,by omega⟩; rfl⟩

theorem rsetL:∀ {l:List RI} {i j:Nat} {x:RI} {v:AV} (h:i < l.length) (hj:j < 4) (hx:rcells x = (rcells l[i]).take j ++ v :: (rcells l[i]).drop (j + 1)),asplice (flat (rL l)) (i * 4 + j) [v] = flat (rL (l.set i x))
 | y :: l,0,j,x,v,h,hj,hx => by
  show asplice (flat (.agg (rcells y) :: rL l)) _ _ = flat (.agg (rcells x) :: rL l)
  rw [flat_cons,flat_cons,Nat.zero_mul,Nat.zero_add]
  have hx:rcells x = (rcells y).take j ++ v :: (rcells y).drop (j + 1):=hx
  show asplice (rcells y ++ _) j [v] = rcells x ++ _
  rw [hx]
  unfold asplice
  have h4:(rcells y).length = 4:=rfl
  rw [List.take_append_of_le_length (by omega),List.drop_append_of_le_length (by simp; omega)]
  simp
 | y :: l,i + 1,j,x,v,h,hj,hx => by
  have ih:=rsetL (l:=l) (i:=i) (j:=j) (x:=x) (v:=v) (by simpa using h) hj hx
  show asplice (flat (.agg (rcells y) :: rL l)) _ _ = flat (.agg (rcells y) :: rL (l.set i x))
  rw [flat_cons,flat_cons,<-ih]
  show asplice (rcells y ++ _) _ _ = rcells y ++ _
  unfold asplice
  have h4:(rcells y).length = 4:=rfl
  rw [List.take_append,List.drop_append,List.take_of_length_le (by omega),List.drop_of_length_le (by simp; omega),h4,show (i + 1) * 4 + j - 4 = i * 4 + j by omega,show (i + 1) * 4 + j + [v].length - 4 = i * 4 + j + [v].length by simp; omega]
  simp
 | [],i,j,x,v,h,hj,hx => by simp at h

def C99v:Contract:=fun args σ K => ∃ (m:RM),args = [rmV m] /\ m.Wf /\ K (.tuple (rmV m.next.1 :: itO m.next.2)) σ.untok

section
variable {B:Nat} {w0:World} {G:Nat -> AV}
theorem c94t_ok:ContractOk (EV B w0 G) 94 C94t:=by
 rintro args σ Q ⟨m,c,rfl,⟨h1,h2,h3,h4,h5⟩,hQ⟩
 refine c94_ok _ _ _ ⟨m,c,rfl,⟨h1,h2,h3,h4⟩,fun id g tv c' σ' ⟨g1,g2,g3,g4⟩ => ?_⟩
 rcases g3.inv with ⟨_,hnil⟩ | ⟨tid,n,tg,rfl,hs,hl⟩
 ·exact absurd (List.map_eq_nil_iff.1 hnil) h5
 ·rw [intsV_len,Nat.mul_one] at hl
  rw [<-hl]
  exact hQ id g tid tg c' σ' ⟨g1,g2,hs,g4⟩
theorem c95t_ok:ContractOk (EV B w0 G) 95 C95t:=by
 rintro args σ Q ⟨m,c,id,g,t0,o0,k0,qs,rfl,h,hQ⟩
 refine c95_ok _ _ _ ⟨m,c,id,g,_,qs,rfl,h,fun tv c' σ' ⟨g1,g2,g3,g4,g5⟩ => ?_⟩
 have g6:=g5 (by simp)
 rcases g3 with ⟨e,_⟩ | ⟨tid,off,k,tg,pre,rfl,g3⟩
 ·exact absurd e g6
 ·exact hQ tid off k c' σ' ⟨g1,g2,.inr ⟨tid,off,k,tg,pre,rfl,g3⟩,g4⟩
theorem H99_ok:HOk1 (EV B w0 G) (H99 (EV B w0 G)):=hnd_ok (EV_mixed B w0 G) (contracts_cons c94t_ok (contracts_cons c95t_ok contracts_nil))
variable (hG:∀ i,NoId (G i))
include hG
theorem pureRl {f:Nat} {args:List AV} {m':RM} {rest:List AV} {Q:AV -> State -> Prop} {σ:State} (ha:∀ x ∈ args,NoId x) (hr:∀ x ∈ rest,NoId x) (hd:∃ N,∀ σ n,N <= n -> rest.mapM (deep Tryz.prog σ n) = some rest)
  (h:ACalls (EV B w0 G) f args noObj (fun v σ' => ∃ rv,v = .tuple (rv :: rest) /\ RAt σ' rv m'))
  (hQ:Q (.tuple (rmV m' :: rest)) σ.untok):ACalls (EV B w0 G) f args σ Q:=by
 obtain ⟨N,hd⟩:=hd
 refine .pureD (2 * SizeOf.sizeOf m'.I + 12 + N) hG ha h fun v σ' ⟨rv,hv,hrv⟩ => ?_
 subst hv
 obtain ⟨v',h1,h2⟩:=deep_RAt hrv (n:=2 * SizeOf.sizeOf m'.I + 11 + N) (by omega)
 refine ⟨.tuple (v' :: rest),_,?_,Wk.tuple (.cons h2 (.refl _)),.tuple fun y hy => ?_,hQ⟩
 ·rw [show 2 * SizeOf.sizeOf m'.I + 12 + N = (2 * SizeOf.sizeOf m'.I + 11 + N) + 1 by omega]
  show ((rv :: rest).mapM (deep Tryz.prog σ' (2 * SizeOf.sizeOf m'.I + 11 + N))).map AV.tuple = _
  rw [List.mapM_cons,h1,hd σ' _ (by omega)]
  rfl
 ·rcases List.mem_cons.1 hy with rfl | hy
  ·exact rmV_noId m'
  ·exact hr y hy

theorem c99_ok:ContractOk (EV B w0 G) 99 C99v:=by
 rintro args σ Q ⟨m,rfl,hW,hQ⟩
 refine pureRl hG (fun y hy => ?_) (itO_noId m.next.2) (itO_deep _ _) ?_ hQ
 ·simp only [List.mem_cons,List.not_mem_nil,or_false] at hy
  rcases hy with rfl
  exact rmV_noId m
 have hlen:=hW.w.len
 have htl:=nd_len hW.w
 have hwk:=hW.w.work
 refine bodyC_ok (EV_mixed B w0 G) H99_ok (fun l hl _ Q a σ k => k.elim) ((vc99 B w0 G m _).mpr ?_)
 rw [intsV_len]
 refine bcase_of (fun h => ?_) (fun h => ?_)
 ·have ht:m.turn = []:=List.length_eq_zero_iff.1 (by have:=eq_of_beq h; omega)
  have e:m.next = (m,none):=by unfold RM.next; rw [ht]
  rw [e]
  exact ⟨_,rfl,.inl rfl⟩
 have htne:m.turn ≠ []:=fun e => by rw [e] at h; cases h
 obtain ⟨k,r,ht⟩:∃ k r,m.turn = k :: r:=by
  cases e:m.turn with
  | nil => exact absurd e htne
  | cons k r => exact ⟨k,r,rfl⟩
 obtain ⟨hk,hkf,hkq,_⟩:=(hW.w.tm k).1 (by rw [ht]; simp)
 obtain ⟨t,q,hq⟩:∃ t q,(m.at k).q = t :: q:=by
  cases e:(m.at k).q with
  | nil => exact absurd e hkq
  | cons t q => exact ⟨t,q,rfl⟩
 have e:m.next = ((m.take1 k r q).fresh.back k q,some (k,t)):=by unfold RM.next; rw [ht]; dsimp only; rw [hq]
 rw [e]
 obtain ⟨w1,_,_,_,_,_⟩:=take1_wf hW ht hq
 have hl1:(m.take1 k r q).I.length = m.I.length:=List.length_set
 have hqt:((m.take1 k r q).at k).q = q:=by rw [RM.set_at (I:=m.I) rfl hk,if_pos rfl]
 have ww:IntKind.wrap .i64 ((m.work:Int) + 1) = ((m.work + 1:Nat):Int):=by rw [wr_small (by omega) (by omega)]; omega
 have htl':r.length + 1 = m.turn.length:=by rw [ht]; rfl
 refine ⟨m,noneH,rfl,⟨noneH_at _,by omega,by omega,(fun h => by rw [h] at hk; simp at hk),htne⟩,fun id g tid tg c' σ' ⟨g1,g2,g3,g4⟩ => ?_⟩
 have ho:=g1.obj g2
 have hto:=g1.obj g3
 have hkI:(0:Int) <= (k:Int) /\ (k:Int) < (m.I.length:Int):=by omega
 have hbd:(0 + Int.toNat (k:Int)) * 4 + 0 < (flat (rL m.I)).length:=by rw [Int.toNat_natCast,flat_rL_len]; omega
 have rdk:List.getD (flat (rL m.I)) ((0 + Int.toNat (k:Int)) * 4 + 0) .undef = .slice 4 (tcellL (m.at k).q) .any:=by
  rw [Int.toNat_natCast,Nat.zero_add,<-rLq_slice,rget (sliceQ_len _) hk (by omega),at_get hk,sliceQ_get hk,at_get hk]; rfl
 -- the merger behind 'take',work not yet counted
 obtain ⟨M,hM⟩:∃ M:RM,M = { m.take1 k r q with work:=m.work }:=⟨_,rfl⟩
 have hMI:M.I = (m.take1 k r q).I:=by rw [hM]
 have hMat:∀ j,M.at j = (m.take1 k r q).at j:=fun j => by rw [hM]; rfl
 have hMt:M.turn = r:=by rw [hM]; rfl
 have hMw:M.work = m.work:=by rw [hM]
 have hMp:M.puts = m.puts:=by rw [hM]; rfl
 have hMl:M.I.length = m.I.length:=by rw [hMI]; exact hl1
 have hMr:M.Ranked:=fun i hi hf => by
  rw [hMat] at hf ⊢
  exact w1.ranked i (by rw [<-hMI]; exact hi) hf
 have hMf:(m.take1 k r q).fresh = { M.fresh with work:=m.work + 1 }:=by
  rw [<-fresh_setwork,hM]; rfl
 have hqs:QsOk (sliceQ M.I) M:=qsOk_slice rfl (fun _ => rfl) hMr
 have hset:asplice (flat (rL m.I)) ((0 + Int.toNat (k:Int)) * 4 + 0) [.slice 4 (tcellL q) .any] = flat (rLq (sliceQ M.I) M.I):=by
  rw [rLq_slice,hMI,Int.toNat_natCast,Nat.zero_add]
  exact rsetL hk (by omega) (by rw [at_get hk]; rfl)
 obtain ⟨c2,k1,k2,k3,k4⟩:∃ c2:MH,At c2 (σ'.set id (.cells (flat (rLq (sliceQ M.I) M.I)) 164 4 g)) /\ c2 .ins = some (id,.cells (flat (rLq (sliceQ M.I) M.I)) 164 4 g) /\ c2 .turn = some (tid,.cells (intsV m.turn) 3 1 tg) /\ Same c' c2 [.ins] :=
  ⟨_,g1.set g2 _,hup_self,(hup_ne (by simp)).trans g3,Same.hup (by simp)⟩
 have htids:(σ'.set id (.cells (flat (rLq (sliceQ M.I) M.I)) 164 4 g)).objs tid = .cells (intsV m.turn) 3 1 tg:=k1.obj k3
 refine ⟨⟨intsV m.turn,tg⟩,hto,by omega,⟨intsV m.turn,tg⟩,hto,by show 0 < (intsV m.turn).length; rw [intsV_len]; omega,k,by rw [ht]; rfl,
  ⟨flat (rL m.I),g⟩,ho,hkI,⟨flat (rL m.I),g⟩,ho,hbd,(m.at k).q,rdk,by rw [hq]; show (0:Int) <= 0 /\ (0:Int) < ((tcellL q).length + 1:Nat); omega,t,by rw [hq]; cases t; rfl,
  ⟨flat (rL m.I),g⟩,ho,hkI,⟨flat (rL m.I),g⟩,ho,hbd,(m.at k).q,rdk,by rw [hq]; show (0:Int) <= 1 /\ (1:Int) <= ((tcellL q).length + 1:Nat); omega,q,by rw [hq,List.take_length]; rfl,
  ⟨flat (rL m.I),g⟩,ho,hkI,⟨flat (rL m.I),g⟩,ho,Nat.succ_le_of_lt hbd,?_⟩
 dsimp only
 rw [hset]
 refine ⟨⟨intsV m.turn,tg⟩,htids,by omega,M,c2,id,g,tid,1,m.turn.length - 1,sliceQ M.I,by rw [hMl,hMw,hMp],⟨k1,k2,.inr ⟨tid,1,m.turn.length - 1,tg,[.int .i64 (k:Int)],rfl,?_,rfl,?_⟩,by omega,by rw [hMt]; omega,hMr,hqs⟩,fun t2 o2 n2 c3 σ3 ⟨j1,j2,j3,j4⟩ => ?_⟩
 ·rw [k3,hMt,ht]; rfl
 ·rw [hMt,intsV_len]; omega
 have hfl:M.fresh.I.length = M.I.length:=fresh_len M
 have hqe:(M.at k).q = q:=by rw [hMat]; exact hqt
 have rdk2:List.getD (flat (rLq (sliceQ M.I) M.fresh.I)) ((0 + Int.toNat (k:Int)) * 4 + 0) .undef = .slice 4 (tcellL q) .any:=by
  rw [Int.toNat_natCast,Nat.zero_add,rget ((sliceQ_len _).trans hfl.symm) (by omega) (by omega),sliceQ_get (by omega),at_get (by omega),hqe]; rfl
 refine ⟨⟨_,g⟩,j1.obj j2,by omega,⟨_,g⟩,j1.obj j2,by rw [Int.toNat_natCast]; show (0 + k) * 4 + 0 < (flat (rLq (sliceQ M.I) M.fresh.I)).length; rw [flat_rLq_len ((sliceQ_len _).trans hfl.symm)]; omega,q,rdk2,?_⟩
 have j3':RoAt c3 .turn 3 1 (.rslice t2 o2 n2) (intsV M.fresh.turn):=j3
 have hfw:=fresh_work M
 have hfin:∀ {σ4:State} {c4:MH} {tv:AV} {tu:List Nat},At c4 σ4 -> c4 .ins = c3 .ins -> RoAt c4 .turn 3 1 tv (intsV tu) ->
   RAt σ4 (.agg [.rslice id 0 M.I.length,tv,.int .i64 (IntKind.wrap .i64 ((M.work:Int) + 1)),.int .i64 (M.puts:Int)]) { M.fresh with work:=m.work + 1,turn:=tu }:=fun {σ4 c4 tv tu} a1 a2 a3 => by
  refine .inr ⟨c4,id,g,tv,sliceQ M.I,?_,hqs.fresh,a1,a2.trans j2,a3⟩
  rw [hMw,ww,hfl]
  show _ = AV.agg [_,_,_,.int .i64 (M.fresh.puts:Int)]
  rw [hfw.2]
 rw [hMf]
 refine bcase_of (fun hl => ?_) (fun hl => ?_)
 ·have hqne:q.isEmpty = false:=by
   cases q with
   | nil => cases hl
   | cons => rfl
  have hb:RM.back { M.fresh with work:=m.work + 1 } k q = { M.fresh with work:=m.work + 1,turn:=M.fresh.turn ++ [k] }:=by unfold RM.back; rw [hqne]; rfl
  rw [hb]
  rcases j3' with ⟨e,_⟩ | ⟨tid',off',n',tg',pre,e,htc,hpl,hcl⟩
  ·cases e
  simp only [AV.rslice.injEq] at e
  obtain ⟨e1,e2,e3⟩:=e
  rw [<-e1] at htc
  rw [<-e2] at hpl
  rw [<-e3] at hcl
  have hto3:=j1.obj htc
  have hft:M.fresh.turn.length <= 10000:=by
   have:M.fresh.turn.length <= M.turn.length + M.I.length:=mj_turn_len M _
   rw [hMt] at this; omega
  have hpl2:(pre ++ intsV M.fresh.turn).length = o2 * 1 + n2 * 1:=by rw [List.length_append,hpl,hcl]
  rw [intsV_len] at hcl
  refine ⟨⟨pre ++ intsV M.fresh.turn,tg'⟩,hto3,⟨⟨by omega,by omega⟩,by show (o2 + n2) * 1 <= (pre ++ intsV M.fresh.turn).length; omega⟩,⟨rfl,_,rfl,?_⟩,⟨rfl,_,rfl,?_⟩⟩
  ·have htk:List.take ((o2 + n2) * 1) (pre ++ intsV M.fresh.turn) = pre ++ intsV M.fresh.turn:=List.take_of_length_le (by omega)
   obtain ⟨c4,a1,a2,a3⟩:∃ c4:MH,At c4 ((σ3.set t2 .dead).new (.cells (pre ++ intsV M.fresh.turn ++ [.int .i64 (k:Int)]) 3 1 true)) /\ c4 .ins = c3 .ins /\ c4 .turn = some (σ3.next,.cells (pre ++ intsV M.fresh.turn ++ [.int .i64 (k:Int)]) 3 1 true) :=
    ⟨_,j1.grow htc _,hup_ne (by simp),hup_self⟩
   dsimp only
   rw [htk]
   refine hfin a1 a2 (.inr ⟨σ3.next,o2,n2 + 1,true,pre,rfl,?_,hpl,?_⟩)
   ·rw [a3,List.append_assoc,intsV_append]; rfl
   ·rw [intsV_len,List.length_append,hcl]; show n2 * 1 + 1 = _; omega
  ·have htk:List.take (n2 * 1) (List.drop (o2 * 1) (pre ++ intsV M.fresh.turn)) = intsV M.fresh.turn:=by rw [List.drop_left' hpl,List.take_of_length_le (by rw [intsV_len]; omega)]
   obtain ⟨c4,a1,a2,a3⟩:∃ c4:MH,At c4 ((σ3.set t2 .dead).new (.cells (intsV M.fresh.turn ++ [.int .i64 (k:Int)]) 3 1 true)) /\ c4 .ins = c3 .ins /\ c4 .turn = some (σ3.next,.cells (intsV M.fresh.turn ++ [.int .i64 (k:Int)]) 3 1 true) :=
    ⟨_,j1.grow htc _,hup_ne (by simp),hup_self⟩
   dsimp only
   rw [htk]
   refine hfin a1 a2 (.inr ⟨σ3.next,0,n2 + 1,true,[],rfl,?_,by simp,?_⟩)
   ·rw [a3,intsV_append]; rfl
   ·rw [intsV_len,List.length_append,hcl]; show n2 * 1 + 1 = _; omega
 ·have hqe':q.isEmpty = true:=by
   cases q with
   | nil => rfl
   | cons => have:=of_decide_eq_false hl; exact absurd (show ((tcellL _:List AV).length:Int) > 0 from by show (((tcellL _).length + 1:Nat):Int) > 0; omega) this
  have hb:RM.back { M.fresh with work:=m.work + 1 } k q = { M.fresh with work:=m.work + 1,turn:=M.fresh.turn }:=by unfold RM.back; rw [hqe']; rfl
  rw [hb]
  exact ⟨rfl,_,rfl,hfin j1 rfl j3'⟩
end
end Go.V
