import Derived.Test.YtgnjidopnplbbaaGreatDoorQ32
/- The reference's Do; the law's same; the law StreamMergers. -/
set_option maxRecDepth 1000000
set_option linter.unusedVariables false
set_option linter.unusedSimpArgs false
set_option linter.unusedSectionVars false
namespace Go.V
open Go Go.Proofs

theorem next_mem {m:RM} (hW:m.Wf) {x:Nat × T} (h:m.next.2 = some x):chkT x.2 = 0:=by
 unfold RM.next at h
 cases ht:m.turn with
 | nil => rw [ht] at h; cases h
 | cons k r =>
  rw [ht] at h
  dsimp only at h
  cases hq:(m.at k).q with
  | nil => rw [hq] at h; cases h
  | cons t q =>
   rw [hq] at h
   cases h
   exact hW.w.chk k t (by rw [hq]; simp)
theorem do_items {m:RM} (hW:m.Wf) (e:Ev):(m.do e).2.1.length <= 1000000 /\ ∀ x ∈ (m.do e).2.1,x.2.small:=by
 unfold RM.do
 split
 ·exact ⟨Nat.zero_le _,fun x hx => by cases hx⟩
 split
 ·exact ⟨Nat.zero_le _,fun x hx => by cases hx⟩
 split
 ·exact ⟨Nat.zero_le _,fun x hx => by cases hx⟩
 cases h:m.next.2 with
 | none => exact ⟨Nat.zero_le _,fun x hx => by cases hx⟩
 | some x => exact ⟨by show 1 <= 1000000; omega,fun y hy => by
   have:y = x:=by simpa using hy
   subst this; exact chk_small (next_mem hW h)⟩
theorem item0_wk:True:=trivial

section
variable {B:Nat} {w0:World} {G:Nat -> AV}
theorem c99s_ok (hG:∀ i,NoId (G i)):ContractOk (EV B w0 G) 99 C99s:=by
 rintro args σ Q ⟨m,rfl,hW,h1,h2⟩
 refine c99_ok hG _ _ _ ⟨m,rfl,hW,?_⟩
 cases h:m.next.2 with
 | none => exact h1 h
 | some x => exact h2 x h
theorem H51_ok (hG:∀ i,NoId (G i)):HOk1 (EV B w0 G) (H51 (EV B w0 G)):=hnd_ok (EV_mixed B w0 G) (contracts_cons (c96_ok hG) (contracts_cons (c97_ok hG) (contracts_cons (c98_ok hG) (contracts_cons (c50_ok hG) (contracts_cons (c99s_ok hG) contracts_nil)))))

theorem c51_ok (hG:∀ i,NoId (G i)):ContractOk (EV B w0 G) 51 C51w:=by
 rintro args σ Q ⟨m,e,lv,rfl,⟨hlv,hW,hb⟩,hQ⟩
 refine ACalls.weaken (args':=[rmV m,.agg [.int .i64 e.k,.int .i64 e.i,.int .i64 e.n,.int .i64 e.t.k,.int .i64 e.t.n,.str e.t.s,.slice 4 (tcellL e.t.l) .any]]) ?_ ?_
 ·refine .cons (.refl _) (.cons (Wk.agg (.cons (.refl _) (.cons (.refl _) (.cons (.refl _) (.cons (.refl _) (.cons (.refl _) (.cons (.refl _) (.cons ?_ .nil)))))))) .nil)
  rcases hlv with rfl | ⟨rfl,h0⟩
  ·exact .refl _
  ·rw [h0]; exact Wk.nil 4
 refine pureT hG (N:=2 * SizeOf.sizeOf (m.doR e).1.I + 2 * SizeOf.sizeOf (m.doR e).2.1 + 20) (fun y hy => ?_) (fun y hy => ?_) ?_ hQ
 ·simp only [List.mem_cons,List.not_mem_nil,or_false] at hy
  rcases hy with rfl | rfl
  ·exact rmV_noId m
  ·exact ev_noId e
 ·simp only [List.mem_cons,List.not_mem_nil,or_false] at hy
  rcases hy with rfl | rfl | rfl
  ·exact rmV_noId _
  ·exact itemsV_noId _
  ·exact .int _ _
 -- what is returned
 have fin0:∀ {σ':State} {m':RM} {err:Int},m.doR e = (m',[],err) -> ∃ vs vs',AV.tuple [rmV m',.nilslice,.int .i64 err] = .tuple vs /\ vs.mapM (deep Tryz.prog σ' (2 * SizeOf.sizeOf (m.doR e).1.I + 2 * SizeOf.sizeOf (m.doR e).2.1 + 20)) = some vs' /\
   WkL vs' [rmV (m.doR e).1,.slice 5 (itemsV (m.doR e).2.1) .any,.int .i64 (m.doR e).2.2]:=fun {σ' m' err} h => by
  rw [h]
  obtain ⟨v1,a1,a2⟩:=deep_RAt (σ:=σ') (v:=rmV m') (m:=m') (.inl rfl) (n:=2 * SizeOf.sizeOf m'.I + 2 * SizeOf.sizeOf ([]:List (Nat × T)) + 20) (by omega)
  refine ⟨_,[v1,.nilslice,.int .i64 err],rfl,?_,.cons a2 (.cons (Wk.nil 5) (.refl _))⟩
  simp only [List.mapM_cons,List.mapM_nil,a1]
  rfl
 have fin1:∀ {σ':State} {m':RM} {x:Nat × T} {c:Cap},m.doR e = (m',[x],0) -> ∃ vs vs',AV.tuple [rmV m',.slice 5 [itemC x] c,.int .i64 0] = .tuple vs /\ vs.mapM (deep Tryz.prog σ' (2 * SizeOf.sizeOf (m.doR e).1.I + 2 * SizeOf.sizeOf (m.doR e).2.1 + 20)) = some vs' /\
   WkL vs' [rmV (m.doR e).1,.slice 5 (itemsV (m.doR e).2.1) .any,.int .i64 (m.doR e).2.2]:=fun {σ' m' x c} h => by
  rw [h]
  dsimp only
  have hs:=pair_size x
  have hs2:SizeOf.sizeOf [x] = 1 + SizeOf.sizeOf x + 1:=rfl
  have hs3:=T.sizeOf_l x.2
  obtain ⟨v1,a1,a2⟩:=deep_RAt (σ:=σ') (v:=rmV m') (m:=m') (.inl rfl) (n:=2 * SizeOf.sizeOf m'.I + 2 * SizeOf.sizeOf [x] + 20) (by omega)
  have hd:deep Tryz.prog σ' (2 * SizeOf.sizeOf m'.I + 2 * SizeOf.sizeOf [x] + 20) (.slice 5 [itemC x] c) = some (.slice 5 [itemC x] (nnCap c)) :=
   deep_slice (n:=2 * SizeOf.sizeOf m'.I + 2 * SizeOf.sizeOf [x] + 19) (by rw [mapM_some]; intro y hy; simp only [List.mem_cons,List.not_mem_nil,or_false] at hy; subst hy; exact deep_itemC _ _ x _ (by omega))
  refine ⟨_,[v1,.slice 5 [itemC x] (nnCap c),.int .i64 0],rfl,?_,.cons a2 (.cons (Wk.slice 5 _ _) (.refl _))⟩
  simp only [List.mapM_cons,List.mapM_nil,a1,hd]
  rfl
 refine bodyC_ok (EV_mixed B w0 G) (H51_ok hG) (fun l hl _ Q a σ k => k.elim) ((vc51 B w0 G m e _).mpr ⟨e,rfl,bcase_of (fun h => ?_) (fun h => ?_)⟩)
 ·have h:isEv e = false:=by simpa using h
  exact fin0 (by unfold RM.doR; rw [h]; rfl)
 have h:isEv e = true:=by simpa using h
 have hdo:m.doR e = m.do e:=by unfold RM.doR; rw [if_pos h]
 refine bcase_of (fun h1 => ?_) (fun h1 => bcase_of (fun h2 => ?_) (fun h2 => bcase_of (fun h3 => ?_) (fun h3 => ?_)))
 ·have h1:e.k = 1:=by simpa using h1
  exact ⟨m,e.i,e.t,rfl,⟨hW,hb⟩,fin0 (by rw [hdo]; unfold RM.do; rw [if_pos h1])⟩
 ·have h1:¬ e.k = 1:=by simpa using h1
  have h2:e.k = 2:=by simpa using h2
  exact ⟨m,e.i,rfl,hW,fin0 (by rw [hdo]; unfold RM.do; rw [if_neg h1,if_pos h2])⟩
 ·have h1:¬ e.k = 1:=by simpa using h1
  have h2:¬ e.k = 2:=by simpa using h2
  have h3:e.k = 3:=by simpa using h3
  exact ⟨m,e.i,e.n,rfl,hW,fin0 (by rw [hdo]; unfold RM.do; rw [if_neg h1,if_neg h2,if_pos h3])⟩
 ·have h1:¬ e.k = 1:=by simpa using h1
  have h2:¬ e.k = 2:=by simpa using h2
  have h3:¬ e.k = 3:=by simpa using h3
  have hd:m.do e = (m.next.1,m.next.2.toList,0):=by unfold RM.do; rw [if_neg h1,if_neg h2,if_neg h3]
  refine ⟨m,rfl,hW,fun hn => ?_,fun x hx => ⟨rfl,rfl,?_⟩⟩
  ·exact fin0 (by rw [hdo,hd,hn]; rfl)
  ·exact fin1 (by rw [hdo,hd,hx]; rfl)

theorem H53_ok (hG:∀ i,NoId (G i)):HOk1 (EV B w0 G) (H53 (EV B w0 G)):=hnd_ok (EV_mixed B w0 G) (contracts_cons c47r_ok (contracts_cons c48_ok (contracts_cons c46_ok (contracts_cons c54r_ok (contracts_cons (c100_ok hG) (contracts_cons (c101_ok hG) (contracts_cons (c20_ok hG) contracts_nil)))))))
theorem inputs_le (m:RM):m.inputs.length <= m.I.length:=by
 have:=List.length_filter_le (fun i => (m.at i).op) (List.range m.I.length)
 rw [List.length_range] at this; exact this
theorem c53_ok (hG:∀ i,NoId (G i)):ContractOk (EV B w0 G) 53 C53:=by
 rintro args σ Q ⟨c,M,m,rfl,⟨hA,hM,hX⟩,hQ⟩
 obtain ⟨L0,p0,_,_,_,hW⟩:=hM
 have hlen:=hW.w.len
 have htl:=nd_len hW.w
 have hil:=inputs_le m
 have hM:MRep c M m:=⟨L0,p0,‹_›,‹_›,‹_›,hW⟩
 refine bodyC_ok (EV_mixed B w0 G) (H53_ok hG) (fun l hl _ Q a σ k => k.elim) ((vc53 B w0 G M m σ _).mpr ?_)
 refine ⟨c,M,m,rfl,⟨hA,hM⟩,rfl,m,rfl,by omega,bcase_of (fun _ => ?_) (fun h => by simp at h)⟩
 refine ⟨cleanH c,M,m,rfl,⟨hA.clean,hM.clean⟩,fun c1 σ1 ⟨a1,a2,a3⟩ => ⟨rfl,m,rfl,by omega,m.inputs.map (fun n:Nat => (n:Int)),m.inputs.map (fun n:Nat => (n:Int)),by rw [intsV_Z],by rw [List.length_map]; omega,bcase_of (fun _ => ?_) (fun h => by simp at h)⟩⟩
 have a2:MRep c1 M m:=a2
 have hx1:XT c1:=(hX.frame (XT.clean hX)).frame a3
 have b1:=a1.clean
 have b2:=a2.clean
 have hx2:XT (cleanH c1):=hx1.frame (XT.clean hx1)
 have b3:=b1.clean
 have b4:=b2.clean
 have hx3:XT (cleanH (cleanH c1)):=hx2.frame (XT.clean hx2)
 refine ⟨_,M,m,rfl,⟨b3,b4⟩,fun σ2 g1 => ⟨rfl,rfl,m.turn.map (fun n:Nat => (n:Int)),m.turn.map (fun n:Nat => (n:Int)),by rw [intsV_Z],by rw [List.length_map]; omega,bcase_of (fun _ => ?_) (fun h => by simp at h)⟩⟩
 have d1:=At.clean g1
 have d2:=b4.clean
 have hq:=hQ _ _ ⟨d1,d2,((((XT.clean hX).trans a3).trans (XT.clean hx1)).trans (XT.clean hx2)).trans (XT.clean hx3)⟩
 refine ⟨_,M,m,rfl,⟨d1,d2⟩,rfl,rfl,?_⟩
 rw [beq_self_eq_true]
 exact hq
end
end Go.V
/- The law StreamMergers. -/
namespace Go.V
open Go Go.Proofs

structure IM13 (y:YM):Prop where
 at_:At y.c y.σ
 rep:MRep y.c y.M y.m
 xt:XT y.c
 i:y.i <= 150
theorem MRep.wf {c:MH} {M:Nat} {m:RM} (h:MRep c M m):m.Wf:=by
 obtain ⟨L0,p0,_,_,_,hW⟩:=h; exact hW
theorem split_len {m:RM} (hW:m.Wf) (i n:Int):(m.split i n).2.1.length <= 1000000:=by
 unfold RM.split
 split
 ·exact Nat.zero_le _
 ·split
  ·exact Nat.zero_le _
  ·split
   ·exact Nat.zero_le _
   ·dsimp only
    rw [List.length_range']; omega
def zT:T:=.mk 0 0 ⟨⟨[]⟩⟩ []
theorem zT_none:noneT zT = true:=by decide
theorem zT_bulk:zT.bulk <= 1099511627776:=by decide

section
variable {B:Nat} {w0:World}
theorem H13_ok:HOk1 (EV B w0 G1) (H13 (EV B w0 G1)):=hnd_ok (EV_mixed B w0 G1) (contracts_cons c16_ok (contracts_cons c41_ok (contracts_cons (c49_ok G1_noId) (contracts_cons (c42_ok G1_noId) (contracts_cons (c50_ok G1_noId) (contracts_cons (c20_ok G1_noId) (contracts_cons (c45_ok G1_noId) (contracts_cons (c51_ok G1_noId) (contracts_cons (c52_ok G1_noId) (contracts_cons (c53_ok G1_noId) contracts_nil))))))))))

theorem mergers_ok (N:Int) (l:List Ev) (hb:∀ e ∈ l,e.t.bulk <= 1099511627776):ACalls (EV B w0 G1) 13 [.agg [.int .i64 N,.slice 7 (evL l) .any]] noObj (fun v _ => v = .bool true):=by
 refine bodyX_ok (cuts:=[]) (EV_mixed B w0 G1) H13_ok (fun lp hl _ Q a σ kk => ?_) ((vc13 B w0 G1 N l IM13 _).mpr ?_)
 ·change lp ∈ fnParts Tryz.prog [] 13 at hl
  rw [fnParts_13] at hl
  simp only [List.mem_cons,List.not_mem_nil,or_false] at hl
  subst hl
  rcases kk with ⟨ha,hq⟩ | ⟨y,hI,ha,hq⟩
  ·refine awp_loopS (ls13b N l) (x0:=()) (fun y hI => ?_) (fun y hI e a σ hne kk => ?_) trivial ha
   ·show AWp _ _ _ _ _ (frm [(1,.l 1 0),(3,.v .nilptr),(4,.v (.int .i64 1)),(5,.l 5 0),(7,.v (.int .i64 0))] [(1,[.int .i64 N,.slice 7 (evL l) .any]),(5,[.slice 4 [] .any,.slice 1 [] .any,.int .i64 0,.int .i64 0])]) noObj
    refine wpX_ok H13_ok (EV_mixed B w0 G1) (L:=fun _ _ _ _ => False) _ _ _ _ (fun p hp hc Q a σ k => k.elim) (by kernel_rfl) ((vc13b B w0 G1 N l).mpr ?_)
    exact bcase_of (fun _ => ⟨rfl,rfl,.refl _⟩) (fun _ => ⟨rfl,rfl,.refl _⟩)
   ·cases e with
    | exit i =>
     match i,kk with
     | 0,kk =>
      have kk:atF a [(3,.v .nilptr),(4,.v (.int .i64 1))] [] (noObj.Le σ):=kk
      exact ⟨_,_,(atF_ok kk).1,(atF_ok kk).2,hq⟩
    | normal => exact absurd rfl hne
    | _ => exact kk.elim
  ·refine awp_loopS (ls13 N l IM13) (x0:=y) (fun y hI => ?_) (fun y hI e a σ hne kk => ?_) hI ha
   ·have hI:IM13 y:=hI
    show AWp _ _ _ _ _ (frm [(1,.l 1 0),(3,.v (.ptr y.M 0)),(4,.v (.int .i64 0)),(5,.l 5 0),(7,.v (.int .i64 (y.i:Int)))] [(1,[.int .i64 N,.slice 7 (evL l) .any]),(5,[.slice 4 (rL y.m.I) .any,.slice 1 (intsV y.m.turn) .any,.int .i64 (y.m.work:Int),.int .i64 (y.m.puts:Int)])]) y.σ
    refine wpX_ok H13_ok (EV_mixed B w0 G1) (L:=fun _ _ _ _ => False) _ _ _ _ (fun p hp hc Q a σ k => k.elim) (by kernel_rfl) ((vc13l B w0 G1 N l IM13 y).mpr ?_)
    have out:(TV.v (.ptr y.M 0) = TV.v (.ptr y.M 0)) /\ (TV.v (.int .i64 0) = TV.v (.int .i64 0)) /\ (TV.l 5 0 = TV.l 5 0) /\ ([AV.slice 4 (rL y.m.I) .any,.slice 1 (intsV y.m.turn) .any,.int .i64 (y.m.work:Int),.int .i64 (y.m.puts:Int)] = [AV.slice 4 (rL y.m.I) .any,.slice 1 (intsV y.m.turn) .any,.int .i64 (y.m.work:Int),.int .i64 (y.m.puts:Int)]) /\ y.σ.Le y.σ:=⟨rfl,rfl,rfl,rfl,.refl _⟩
    refine bcase_of (fun h => bcase_of (fun h150 => ?_) (fun _ => out)) (fun _ => out)
    have h:=of_decide_eq_true h
    have h150:=of_decide_eq_true h150
    have hi:y.i < l.length:=by rw [evL_len] at h; omega
    have hget:AV.vptr (AV.cells (List.getD (evL l) (Int.toNat (y.i:Int)) .undef)) = .vptr (evc l[y.i]):=by rw [Int.toNat_natCast,ev_get hi]; rfl
    have w1:IntKind.wrap .i64 ((y.i:Int) + 1) = ((y.i + 1:Nat):Int):=by rw [wr_small (by omega) (by omega)]; omega
    have hμ:l.length - (y.i + 1) < l.length - y.i:=by omega
    have hW:=hI.rep.wf
    have hbe:=hb _ (List.getElem_mem hi)
    obtain ⟨e,he⟩:∃ e,e = l[y.i]:=⟨_,rfl⟩
    rw [<-he] at hget hbe
    have nxt:∀ (c2:MH) (σ2:State) (m':RM),At c2 σ2 -> MRep c2 y.M m' -> XT c2 -> ∃ x':YM,(IM13 x' /\ (ls13 N l IM13).μ x' < (ls13 N l IM13).μ y) /\ (TV.l 1 0 = TV.l 1 0) /\ (TV.v (.ptr y.M 0) = TV.v (.ptr x'.M 0)) /\ (TV.v (.int .i64 0) = TV.v (.int .i64 0)) /\ (TV.l 5 0 = TV.l 5 0) /\ (TV.v (.int .i64 (IntKind.wrap .i64 ((y.i:Int) + 1))) = TV.v (.int .i64 (x'.i:Int))) /\
      ([AV.int .i64 N,.slice 7 (evL l) .any] = [AV.int .i64 N,.slice 7 (evL l) .any]) /\ ([AV.slice 4 (rL m'.I) .any,.slice 1 (intsV m'.turn) .any,.int .i64 (m'.work:Int),.int .i64 (m'.puts:Int)] = [AV.slice 4 (rL x'.m.I) .any,.slice 1 (intsV x'.m.turn) .any,.int .i64 (x'.m.work:Int),.int .i64 (x'.m.puts:Int)]) /\ ((ls13 N l IM13).S x').Le σ2:=fun c2 σ2 m' a1 a2 a3 =>
     ⟨⟨σ2,c2,y.M,m',y.i + 1⟩,⟨⟨a1,a2,a3,by show y.i + 1 <= 150; omega⟩,hμ⟩,rfl,rfl,rfl,rfl,by rw [w1],rfl,rfl,.refl _⟩
    refine ⟨⟨by omega,h⟩,e,hget,bcase_of (fun hk => ?_) (fun hk => bcase_of (fun hk1 => bcase_of (fun hk4 => ?_) (fun _ => ?_)) (fun _ => ?_))⟩
    ·refine ⟨y.c,y.M,y.m,e.i,e.n,rfl,⟨hI.at_,hI.rep⟩,fun c1 σ1 ⟨g1,g2,g3⟩ => ⟨y.m,e.i,e.n,rfl,hW,bcase_of (fun h => by simp at h) (fun _ => ⟨(y.m.split e.i e.n).2.1.map (fun n:Nat => (n:Int)),(y.m.split e.i e.n).2.1.map (fun n:Nat => (n:Int)),by rw [intsV_Z],by rw [List.length_map]; exact split_len hW _ _,bcase_of (fun h => by simp at h) (fun _ => ?_)⟩)⟩⟩
     have g2:MRep c1 y.M (y.m.split e.i e.n).1:=g2
     have hx1:XT c1:=hI.xt.frame g3
     have hx2:XT (cleanH c1):=hx1.frame (XT.clean hx1)
     have hx3:XT (cleanH (cleanH c1)):=hx2.frame (XT.clean hx2)
     exact ⟨cleanH (cleanH c1),y.M,(y.m.split e.i e.n).1,rfl,⟨g1.clean.clean,g2.clean.clean,hx3⟩,fun c2 σ2 ⟨a1,a2,a3⟩ => nxt c2 σ2 _ a1 a2 (hx3.frame a3)⟩
    ·have hk3:¬ e.k = 3:=by simpa using hk
     have hk1:=of_decide_eq_true hk1
     have hk4:=of_decide_eq_true hk4
     refine ⟨y.c,y.M,y.m,e,rfl,⟨hI.at_,hI.rep,hI.xt⟩,fun c1 σ1 ⟨g1,g2,g3⟩ => ?_⟩
     have g2:MRep c1 y.M (y.m.do e).1:=g2
     have hx1:XT c1:=hI.xt.frame g3
     have hx2:XT (cleanH c1):=hx1.frame (XT.clean hx1)
     have hx3:XT (cleanH (cleanH c1)):=hx2.frame (XT.clean hx2)
     obtain ⟨d1,d2⟩:=do_items hW e
     refine bcase_of (fun hk4 => bcase_of (fun hk1 => ?_) (fun hk1 => ?_)) (fun hk4 => bcase_of (fun hk1 => ?_) (fun hk1 => ?_))
     ·have hk1:e.k = 1:=by simpa using hk1
      have hdo:y.m.doR ⟨e.k,e.i,0,e.t⟩ = y.m.do e:=by
       unfold RM.doR isEv RM.do
       simp [hk1]
      refine ⟨y.m,⟨e.k,e.i,0,e.t⟩,_,rfl,⟨.inl rfl,hW,hbe⟩,?_⟩
      rw [hdo]
      exact bcase_of (fun h => by simp at h) (fun _ => ⟨(y.m.do e).2.1,rfl,⟨d1,d2⟩,cleanH (cleanH c1),y.M,(y.m.do e).1,rfl,⟨g1.clean.clean,g2.clean.clean,hx3⟩,fun c2 σ2 ⟨a1,a2,a3⟩ => nxt c2 σ2 _ a1 a2 (hx3.frame a3)⟩)
     ·have hk1:¬ e.k = 1:=by simpa using hk1
      have hk4:¬ e.k = 4:=by simpa using hk4
      have hk2:e.k = 2:=by omega
      have hdo:y.m.doR ⟨e.k,e.i,0,zT⟩ = y.m.do e:=by
       unfold RM.doR isEv RM.do
       simp [hk2,zT_none]
      refine ⟨y.m,⟨e.k,e.i,0,zT⟩,_,rfl,⟨.inr ⟨rfl,rfl⟩,hW,zT_bulk⟩,?_⟩
      rw [hdo]
      exact bcase_of (fun h => by simp at h) (fun _ => ⟨(y.m.do e).2.1,rfl,⟨d1,d2⟩,cleanH (cleanH c1),y.M,(y.m.do e).1,rfl,⟨g1.clean.clean,g2.clean.clean,hx3⟩,fun c2 σ2 ⟨a1,a2,a3⟩ => nxt c2 σ2 _ a1 a2 (hx3.frame a3)⟩)
     ·have hk1:e.k = 1:=by simpa using hk1
      have hk4:e.k = 4:=by simpa using hk4
      omega
     ·have hk1:¬ e.k = 1:=by simpa using hk1
      have hk4:e.k = 4:=by simpa using hk4
      have hdo:y.m.doR ⟨e.k,0,0,zT⟩ = y.m.do e:=by
       unfold RM.doR isEv RM.do
       simp [hk4,zT_none]
      refine ⟨y.m,⟨e.k,0,0,zT⟩,_,rfl,⟨.inr ⟨rfl,rfl⟩,hW,zT_bulk⟩,?_⟩
      rw [hdo]
      exact bcase_of (fun h => by simp at h) (fun _ => ⟨(y.m.do e).2.1,rfl,⟨d1,d2⟩,cleanH (cleanH c1),y.M,(y.m.do e).1,rfl,⟨g1.clean.clean,g2.clean.clean,hx3⟩,fun c2 σ2 ⟨a1,a2,a3⟩ => nxt c2 σ2 _ a1 a2 (hx3.frame a3)⟩)
    ·exact ⟨y.c,y.M,y.m,rfl,⟨hI.at_,hI.rep,hI.xt⟩,fun c2 σ2 ⟨a1,a2,a3⟩ => nxt c2 σ2 _ a1 a2 (hI.xt.frame a3)⟩
    ·exact ⟨y.c,y.M,y.m,rfl,⟨hI.at_,hI.rep,hI.xt⟩,fun c2 σ2 ⟨a1,a2,a3⟩ => nxt c2 σ2 _ a1 a2 (hI.xt.frame a3)⟩
   ·cases e with
    | exit i =>
     match i,kk with
     | 0,kk =>
      have kk:atF a [(3,.v (.ptr y.M 0)),(4,.v (.int .i64 0)),(5,.l 5 0)] [(5,[.slice 4 (rL y.m.I) .any,.slice 1 (intsV y.m.turn) .any,.int .i64 (y.m.work:Int),.int .i64 (y.m.puts:Int)])] (y.σ.Le σ):=kk
      exact ⟨_,_,(atF_ok kk).1,(atF_ok kk).2,hq y hI⟩
    | normal => exact absurd rfl hne
    | _ => exact kk.elim
 have fin:∀ y':YM,IM13 y' -> ∃ (c:MH) (M:Nat) (m:RM),[AV.ptr y'.M 0,rmV y'.m] = [.ptr M 0,rmV m] /\ (At c y'.σ /\ MRep c M m /\ XT c) /\ ∀ (c':MH) (σ':State),(At c' σ' /\ MRep c' M m /\ Frame' c c') -> AV.bool true = .bool true:=fun y' hI =>
  ⟨y'.c,y'.M,y'.m,rfl,⟨hI.at_,hI.rep,hI.xt⟩,fun _ _ _ => rfl⟩
 refine ⟨rfl,noneH,N,rfl,noneH_at _,fun hbad => ⟨N,rfl,fun h => by omega,fun _ => .inl ⟨⟨rfl,rfl,rfl,rfl,rfl,rfl,rfl,⟨rfl,fun id => .inr rfl⟩⟩,rfl⟩⟩,fun hok c' σ' M ⟨g1,g2,g3⟩ => ⟨N,rfl,fun _ => .inr ?_,fun h => absurd hok h⟩⟩
 have g2:MRep c' M (RM.new N.toNat):=g2
 have hx1:XT c':=noneH_xt.frame g3
 exact ⟨⟨σ'.untok,cleanH c',M,RM.new N.toNat,0⟩,⟨g1.clean,g2.clean,hx1.frame (XT.clean hx1),Nat.zero_le _⟩,⟨rfl,rfl,rfl,rfl,rfl,rfl,rfl,.refl _⟩,fun y' hI => fin y' hI⟩
end
end Go.V
