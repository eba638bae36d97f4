import Derived.Test.YtgnjidopnplbbaaGreatDoorN28
/- The law StreamOnce: the rounds. -/
set_option maxRecDepth 1000000
set_option linter.unusedVariables false
set_option linter.unusedSimpArgs false
set_option linter.unusedSectionVars false
namespace Go.V
open Go Go.Proofs

structure IB10 (y:YO):Prop where
 at_:At y.c y.σ
 rep:MRep y.c y.M y.m
 n:y.n = y.m.I.length
 on:IOn y.c (fun k => (y.m.at k).q) (fun k => (y.m.at k).bh) y.n y.ic y.ib
 i:y.i <= 150
def z4T:List AV:=[.int .i64 0,.int .i64 0,.str ⟨⟨[]⟩⟩,.nilslice]
theorem parts10b:partsIn [] (bodyOf (fnPart Tryz.prog [] 10 1)) = [.loop (bodyOf (subPart [] (fnPart Tryz.prog [] 10 1) 0)),.loop (bodyOf (subPart [] (fnPart Tryz.prog [] 10 1) 1))]:=by kernel_rfl
theorem headId_10b:headId (.loop (bodyOf (subPart [] (fnPart Tryz.prog [] 10 1) 0))) = some 22 /\ headId (.loop (bodyOf (subPart [] (fnPart Tryz.prog [] 10 1) 1))) = some 38:=⟨by kernel_rfl,by kernel_rfl⟩
theorem snoc_flat (l:List T) (t:T):flat (tcellL (l ++ [t])) = flat (tcellL l) ++ [.int .i64 t.k,.int .i64 t.n,.str t.s,.slice 4 (tcellL t.l) .any]:=by
 rw [tcellL_eq,List.map_append,flat_append,<-tcellL_eq]
 congr 1
 cases t
 simp [flat,AV.cells,tcell]
 exact ⟨rfl,rfl,rfl,rfl⟩

section
variable {B:Nat} {w0:World}
theorem H10b_ok:HOk1 (EV B w0 G1) (H10b (EV B w0 G1)):=hnd_ok (EV_mixed B w0 G1) (contracts_cons (c42_ok G1_noId) (contracts_cons (c45_ok G1_noId) contracts_nil))

theorem body10b {N:Int} {l:List Ev} {y:YO} (hI:IB10 y):AWp (EV B w0 G1) none (fnTmps Tryz.prog 10) (bodyOf (fnPart Tryz.prog [] 10 1)) ((ls10b N l IB10).post y) (frm (F10 y) (FL10 N l)) y.σ:=by
 have hi150:=hI.i
 have hW:=hI.rep.wfX
 have hlen:=hW.w.len
 have hnn:=hI.n
 refine wpX_ok H10b_ok (EV_mixed B w0 G1) (L:=handL [(22,T10c N l (fun g y9 => ∃ c,IC10 y.i g y.m.I.length c y9) (fun g y9 => ∃ c,IC10 y.i g y.m.I.length c y9 /\ y9.j = c)),(38,T10d N l (fun x y9 => ID10 y.i x y9) (fun x y9 => ID10 y.i x y9 /\ y9.j = x.length))]) _ _ _ _ (fun p hp hc Q a σ kk => ?_) (by kernel_rfl) ((vc10b B w0 G1 N l (fun g y9 => ∃ c,IC10 y.i g y.m.I.length c y9) (fun g y9 => ∃ c,IC10 y.i g y.m.I.length c y9 /\ y9.j = c) (fun x y9 => ID10 y.i x y9) (fun x y9 => ID10 y.i x y9 /\ y9.j = x.length) IB10 y).mpr ?_)
 ·rw [parts10b] at hp
  simp only [List.mem_cons,List.not_mem_nil,or_false] at hp
  rcases hp with rfl | rfl
  ·refine handL_ok (P:=fun c Q a σ => AWp (EV B w0 G1) none (fnTmps Tryz.prog 10) c Q a σ) kk (fun _ kk => ?_) fun kk => ?_
   ·obtain ⟨g,y9,⟨c,hP⟩,ha,hq⟩:=kk
    exact loop10c hP Q a σ ha (fun y' hy' => hq y' ⟨c,hy'⟩)
   ·exact handL_ok (P:=fun c Q a σ => AWp (EV B w0 G1) none (fnTmps Tryz.prog 10) c Q a σ) kk (fun e _ => by rw [headId_10b.1] at e; simp at e) (fun kk => kk.elim)
  ·refine handL_ok (P:=fun c Q a σ => AWp (EV B w0 G1) none (fnTmps Tryz.prog 10) c Q a σ) kk (fun e _ => by rw [headId_10b.2] at e; simp at e) fun kk => ?_
   refine handL_ok (P:=fun c Q a σ => AWp (EV B w0 G1) none (fnTmps Tryz.prog 10) c Q a σ) kk (fun _ kk => ?_) (fun kk => kk.elim)
   obtain ⟨x,y9,hP,ha,hq⟩:=kk
   exact loop10d hP Q a σ ha hq
 refine bcase_of (fun h => bcase_of (fun h150 => ?_) (fun _ => trivial)) (fun _ => trivial)
 have h:=of_decide_eq_true h
 have h150:=of_decide_eq_true h150
 have hi:y.i < l.length:=by rw [evL_len] at h; omega
 have hget:AV.vptr (AV.cells (List.getD (evL l) (Int.toNat (y.i:Int)) .undef)) = .vptr (evc l[y.i]):=by rw [Int.toNat_natCast,ev_get hi]; rfl
 have w1:IntKind.wrap .i64 ((y.i:Int) + 1) = ((y.i + 1:Nat):Int):=by rw [wr_small (by omega) (by omega)]; omega
 have hμ:l.length - (y.i + 1) < l.length - y.i:=by omega
 generalize l[y.i] = e at hget
 refine ⟨⟨by omega,h⟩,e,hget,bcase_of (fun hk3 => ?_) (fun hk3 => ?_)⟩
 ·-- a split
  obtain ⟨c,s1,s2,s3,s4,s5,s6⟩:=once_split hW e.i e.n
  refine ⟨y.c,y.M,y.m,e.i,e.n,rfl,⟨hI.at_,hI.rep⟩,fun c1 σ1 ⟨g1,g2,g3⟩ => ?_⟩
  refine ⟨⟨(y.m.split e.i e.n).2.1,e,(y.m.split e.i e.n).2.2⟩,⟨σ1,c1,y.M,(y.m.split e.i e.n).1,y.ic,y.ib,y.n,y.i,0,0⟩,⟨c,g1,g2,?_,by show y.n = y.m.I.length + 0; omega,s2,s1,s3,s4,s6,Nat.zero_le _,rfl⟩,⟨rfl,rfl,rfl,rfl,rfl,rfl,rfl,rfl,rfl,rfl,rfl,rfl,.refl _⟩,fun y' ⟨c',hy',hj⟩ => ?_⟩
  ·exact (hI.on.frame g3).ext rfl (fun k hk => (s5 k (by omega)).1) (fun k hk => (s5 k (by omega)).2)
  ·have e1:=hy'.i
   have e2:=hy'.n
   have e3:=hy'.len
   exact ⟨{ y' with i:=y'.i + 1 },⟨⟨hy'.at_,hy'.rep,by show y'.n = y'.m.I.length; omega,hy'.on,by show y'.i + 1 <= 150; omega⟩,by show l.length - (y'.i + 1) < l.length - y.i; omega⟩,rfl,rfl,rfl,rfl,by rw [e1,w1],rfl,.refl _⟩
 ·have hk3:e.k ≠ 3:=by simpa using hk3
  obtain ⟨o1,o2,o3,o4⟩:=once_do hW hk3
  refine ⟨y.c,y.M,y.m,e,rfl,⟨hI.at_,hI.rep,hI.on.xt⟩,fun c1 σ1 ⟨g1,g2,g3⟩ => ?_⟩
  have g2:MRep c1 y.M (y.m.do e).1:=g2
  have hon1:=hI.on.frame g3
  -- the items
  have tl:∀ (σ5:State) (c5:MH),At c5 σ5 -> MRep c5 y.M (y.m.do e).1 -> IOn c5 (qpre (y.m.do e).2.1 0 (y.m.do e).1) (fun k => ((y.m.do e).1.at k).bh) y.n y.ic y.ib -> (y.m.do e).2.1.length <= 1 -> (∀ z,(y.m.do e).2.1[0]? = some z -> z.1 < y.n /\ ((y.m.do e).1.at z.1).fr = true /\ chkT z.2 = 0) ->
    ∃ (x7:List (Nat × T)) (y8:YO),ID10 y.i x7 y8 /\ (Rf (TV.l 1 0) /\ (TV.v (.ptr y.M 0) = TV.v (.ptr y8.M 0)) /\ (TV.v (.rslice y.ic 0 y.n) = TV.v (.rslice y8.ic 0 y8.n)) /\ (TV.v (.rslice y.ib 0 y.n) = TV.v (.rslice y8.ib 0 y8.n)) /\ (TV.v (.int .i64 (y.i:Int)) = TV.v (.int .i64 (y8.i:Int))) /\
     (TV.v (.slice 5 ((y.m.do e).2.1.map itemC) .any) = TV.v (.slice 5 (itemsO x7) .any)) /\ (TV.v (.int .i64 (((y.m.do e).2.1.map itemC).length:Int)) = TV.v (.int .i64 ((itemsO x7).length:Int))) /\ (TV.v (.int .i64 0) = TV.v (.int .i64 (y8.j:Int))) /\ Rf [AV.int .i64 N,.slice 7 (evL l) .any] /\ y8.σ.Le σ5) /\
     ∀ y9:YO,(ID10 y.i x7 y9 /\ y9.j = x7.length) -> ∃ x10:YO,(IB10 x10 /\ (ls10b N l IB10).μ x10 < (ls10b N l IB10).μ y) /\ Rf (TV.l 1 0) /\ (TV.v (.ptr y9.M 0) = TV.v (.ptr x10.M 0)) /\ (TV.v (.rslice y9.ic 0 y9.n) = TV.v (.rslice x10.ic 0 x10.n)) /\ (TV.v (.rslice y9.ib 0 y9.n) = TV.v (.rslice x10.ib 0 x10.n)) /\
      (TV.v (.int .i64 (IntKind.wrap .i64 ((y9.i:Int) + 1))) = TV.v (.int .i64 (x10.i:Int))) /\ Rf [AV.int .i64 N,.slice 7 (evL l) .any] /\ ((ls10b N l IB10).S x10).Le y9.σ:=fun σ5 c5 a1 a2 a3 a4 a5 => by
   refine ⟨(y.m.do e).2.1,⟨σ5,c5,y.M,(y.m.do e).1,y.ic,y.ib,y.n,y.i,0,0⟩,⟨a1,a2,by show y.n = _; rw [o1]; exact hnn,a3,a4,Nat.zero_le _,rfl,a5⟩,⟨rfl,rfl,rfl,rfl,rfl,rfl,rfl,rfl,rfl,.refl _⟩,fun y9 ⟨hy,hj⟩ => ?_⟩
   have e1:=hy.i
   refine ⟨{ y9 with i:=y9.i + 1 },⟨⟨hy.at_,hy.rep,hy.n,hy.on.ext rfl (fun k _ => ?_) (fun _ _ => rfl),by show y9.i + 1 <= 150; omega⟩,by show l.length - (y9.i + 1) < l.length - y.i; rw [e1]; exact hμ⟩,rfl,rfl,rfl,rfl,by rw [e1,w1],rfl,.refl _⟩
   unfold qpre; rw [hj,List.getElem?_eq_none (Nat.le_refl _)]
  -- no item has come
  have other:¬ (e.k = 1 /\ (y.m.do e).2.2 = 0) -> _:=fun hno => by
   refine tl σ1 c1 g1 g2 ?_ ?_ ?_
   ·rcases o4 hno with ⟨h1,h2⟩ | ⟨x,h1,h2,h3,h4,h5,h6⟩
    ·rw [h1]
     exact hon1.ext rfl (fun k _ => h2 k) (fun k _ => o2 k)
    ·rw [h1]
     refine hon1.ext rfl (fun k _ => ?_) (fun k _ => o2 k)
     show (if k = x.1 then x.2 :: ((y.m.do e).1.at k).q else ((y.m.do e).1.at k).q) = _
     by_cases ek:k = x.1
     ·subst ek; rw [if_pos rfl,h4]
     ·rw [if_neg ek,h5 k ek]
   ·rcases o4 hno with ⟨h1,h2⟩ | ⟨x,h1,h2⟩
    ·rw [h1]; exact Nat.zero_le _
    ·rw [h1]; exact Nat.le_refl _
   ·rcases o4 hno with ⟨h1,h2⟩ | ⟨x,h1,h2,h3,h4,h5,h6⟩
    ·rw [h1]; intro z hz; cases hz
    ·rw [h1]; intro z hz; cases hz; exact ⟨by omega,h3,h6⟩
  refine bcase_of (fun hk1 => bcase_of (fun he0 => ?_) (fun he0 => other (fun h => by rw [h.2] at he0; simp at he0))) (fun hk1 => other (fun h => by rw [h.1] at hk1; simp at hk1))
  have hk1:e.k = 1:=by simpa using hk1
  have he0:(y.m.do e).2.2 = 0:=by simpa using he0
  obtain ⟨p1,k,p2,p3,p4⟩:=o3 ⟨hk1,he0⟩
  clear other o3 o4
  have hkn:k < y.n:=by omega
  obtain ⟨⟨cv,g,c0,c2,c3⟩,⟨g',c4⟩,cx⟩:=hon1
  have hon1:=hI.on.frame g3
  have ho:=g1.obj c0
  have hr:RoO c1 (.x (2 + k)) (cv.getD k .undef) ((y.m.at k).q):=c3 k hkn
  have hrng:(0:Int) <= e.i /\ e.i < (y.n:Int):=by omega
  have hbd:(0 + Int.toNat e.i) * 1 < cv.length:=by rw [p2,Int.toNat_natCast]; omega
  have hgd:cv.getD ((0 + Int.toNat e.i) * 1) .undef = cv.getD k .undef:=by rw [p2,Int.toNat_natCast,Nat.zero_add,Nat.mul_one]
  have hset:∀ v,asplice cv ((0 + Int.toNat e.i) * 1) [v] = asplice cv k [v]:=fun v => by rw [p2,Int.toNat_natCast,Nat.zero_add,Nat.mul_one]
  have hqp:=hW.w.qp
  have hqk:=q_le y.m k
  have hpu:=hW.w.puts
  have hqn:∀ k,qpre (y.m.do e).2.1 0 (y.m.do e).1 k = ((y.m.do e).1.at k).q:=fun k => by rw [p1]; rfl
  have hroles:∀ {c2 c5:MH},Same c1 c2 [.x 0,.x (2 + k)] -> Same c2 c5 [.x 0,.x (2 + k)] -> Same c1 c5 [.x 0,.x (2 + k)]:=fun h1 h2 => h1.trans h2
  have fin:∀ (σ5:State) (c5:MH) (nid off:Nat) (pre:List AV) (gq:Bool),At c5 σ5 -> Same c1 c5 [.x 0,.x (2 + k)] -> c5 (.x 0) = some (y.ic,.cells (asplice cv k [.rslice nid off ((y.m.at k).q.length + 1)]) 23 1 g) -> c5 (.x (2 + k)) = some (nid,.cells (pre ++ flat (tcellL ((y.m.at k).q ++ [e.t]))) 37 4 gq) -> pre.length = off * 4 -> _:=fun σ5 c5 nid off pre gq a1 a2 a3 a4 a5 => tl σ5 c5 a1 (g2.sameX _ a2 (fun q hq => by simp at hq; rcases hq with rfl | rfl; exact ⟨0,rfl⟩; exact ⟨_,rfl⟩)) (by
   refine IOn.ext (hon1.upd (q':=fun j => ((y.m.do e).1.at j).q) (k:=k) c0 hkn a3 (fun i h1 h2 => a2 _ (by simp; omega)) ?_ (fun j hj => by show ((y.m.do e).1.at j).q = (y.m.at j).q; rw [p4,if_neg hj]) (cx.set [0,2 + k] (fun i hi => a2 _ (by simpa using hi)) (fun i hi id o eo => by
    simp at hi
    rcases hi with rfl | rfl
    ·rw [a3] at eo; cases eo; rfl
    ·rw [a4] at eo; cases eo; rfl))) rfl (fun j _ => hqn j) (fun j _ => o2 j)
   show RoO c5 (.x (2 + k)) _ (((y.m.do e).1.at k).q)
   rw [p4,if_pos rfl]
   exact .inr ⟨nid,off,gq,pre,by rw [List.length_append]; rfl,a4,a5⟩) (by rw [p1]; exact Nat.zero_le _) (by rw [p1]; intro z hz; cases hz)
  have h02:MRole.x 0 ∉ [MRole.x (2 + k)]:=by simp; omega
  have h20:MRole.x (2 + k) ≠ MRole.x 0:=by simp
  have h21:MRole.x 0 ≠ MRole.x (2 + k):=by simp; omega
  -- the cell is set
  have mkA:∀ (σ2:State) (c2:MH) (nid off:Nat) (pre:List AV),At c2 σ2 -> Same c1 c2 [.x (2 + k)] -> c2 (.x (2 + k)) = some (nid,.cells (pre ++ flat (tcellL ((y.m.at k).q ++ [e.t]))) 37 4 true) -> pre.length = off * 4 -> _:=fun σ2 c2 nid off pre a1 a2 a3 a4 => by
   have b0:c2 (.x 0) = some (y.ic,.cells cv 23 1 g):=(a2 (.x 0) h02).trans c0
   exact fin (σ2.set y.ic (.cells (asplice cv k [.rslice nid off ((y.m.at k).q.length + 1)]) 23 1 g)) (hup c2 (.x 0) (some (y.ic,.cells (asplice cv k [.rslice nid off ((y.m.at k).q.length + 1)]) 23 1 g))) nid off pre true (a1.set b0 _) ((a2.wide (by simp)).trans (Same.hup (by simp))) hup_self ((hup_ne h20).trans a3) a4
  have mkB:∀ (σ2:State) (c2:MH) (nid off:Nat) (pre z:List AV),At c2 σ2 -> Same c1 c2 [.x (2 + k)] -> c2 (.x (2 + k)) = some (nid,.cells z 37 4 true) -> pre.length = off * 4 -> _:=fun σ2 c2 nid off pre z a1 a2 a3 a4 => by
   have b0:c2 (.x 0) = some (y.ic,.cells cv 23 1 g):=(a2 (.x 0) h02).trans c0
   have b1:=a1.set b0 (.cells (asplice cv k [.rslice nid off ((y.m.at k).q.length + 1)]) 23 1 g)
   have b2:hup c2 (.x 0) (some (y.ic,.cells (asplice cv k [.rslice nid off ((y.m.at k).q.length + 1)]) 23 1 g)) (.x (2 + k)) = some (nid,.cells z 37 4 true):=(hup_ne h20).trans a3
   exact fin ((σ2.set y.ic (.cells (asplice cv k [.rslice nid off ((y.m.at k).q.length + 1)]) 23 1 g)).set nid (.cells (pre ++ flat (tcellL ((y.m.at k).q ++ [e.t]))) 37 4 true)) (hup (hup c2 (.x 0) (some (y.ic,.cells (asplice cv k [.rslice nid off ((y.m.at k).q.length + 1)]) 23 1 g))) (.x (2 + k)) (some (nid,.cells (pre ++ flat (tcellL ((y.m.at k).q ++ [e.t]))) 37 4 true))) nid off pre true (b1.set b2 _) (((a2.wide (by simp)).trans (Same.hup (by simp))).trans (Same.hup (by simp))) ((hup_ne h21).trans hup_self) hup_self a4
  have hcv:∀ {σ2:State} {c2:MH},At c2 σ2 -> Same c1 c2 [.x (2 + k)] -> σ2.objs y.ic = .cells cv 23 1 g:=fun a1 a2 => a1.obj ((a2 (.x 0) h02).trans c0)
  have hbd':(0 + Int.toNat e.i) * 1 + 1 <= cv.length:=Nat.succ_le_of_lt hbd
  have hz:∀ {σ2:State} {c2:MH} {nid:Nat} {Z:List AV} {v:AV},At c2 σ2 -> Same c1 c2 [.x (2 + k)] -> c2 (.x (2 + k)) = some (nid,.cells Z 37 4 true) -> (σ2.set y.ic (.cells (asplice cv k [v]) 23 1 g)).objs nid = .cells Z 37 4 true:=fun {σ2 c2 nid Z v} a1 a2 a3 =>
   (a1.set ((a2 (.x 0) h02).trans c0) (.cells (asplice cv k [v]) 23 1 g)).obj ((hup_ne h20).trans a3)
  refine bcase_of (fun h => by have h:=of_decide_eq_true h; omega) (fun _ => bcase_of (fun h => by have h:=of_decide_eq_true h; omega) (fun _ => ?_))
  rcases hr with ⟨e1,hq0⟩ | ⟨id,off,qg,pre,e1,hs,hpl⟩
  ·rw [hq0] at mkA mkB
   have hgn:∀ cs,∃ c2:MH,At c2 (σ1.new (.cells cs 37 4 true)) /\ c2 (.x (2 + k)) = some (σ1.next,.cells cs 37 4 true) /\ Same c1 c2 [.x (2 + k)]:=fun cs => ⟨_,g1.new (.x (2 + k)) _,hup_self,Same.hup (by simp)⟩
   refine ⟨⟨⟨cv,g⟩,ho,hrng,⟨cv,g⟩,ho,hbd,.inl ⟨hgd.trans e1,⟨by decide,by decide⟩,?_⟩⟩,⟨cv,g⟩,ho,hrng,⟨cv,g⟩,ho,hbd,.inl ⟨hgd.trans e1,⟨by decide,by decide⟩,?_⟩⟩
   ·obtain ⟨c2,a1,a2,a3⟩:=hgn [.int .i64 e.t.k,.int .i64 e.t.n,.str e.t.s,.slice 4 (tcellL e.t.l) .any]
    refine ⟨⟨cv,g⟩,hcv a1 a3,hrng,rfl,rfl,rfl,⟨cv,g⟩,hcv a1 a3,hbd',?_⟩
    have:=mkA _ c2 σ1.next 0 [] a1 a3 (by rw [a2]; rw [snoc_flat]; rfl) rfl
    dsimp only
    rw [hset]
    exact this
   ·obtain ⟨c2,a1,a2,a3⟩:=hgn z4T
    refine ⟨⟨cv,g⟩,hcv a1 a3,hrng,⟨cv,g⟩,hcv a1 a3,hbd',?_⟩
    dsimp only
    rw [hset]
    refine ⟨⟨z4T,true⟩,hz a1 a3 a2,⟨by decide,by decide⟩,⟨z4T,true⟩,hz a1 a3 a2,by decide,?_⟩
    have:=mkB _ c2 σ1.next 0 [] z4T a1 a3 a2 rfl
    have hsp:asplice z4T 0 [AV.int .i64 e.t.k,.int .i64 e.t.n,.str e.t.s,.slice 4 (tcellL e.t.l) .any] = [] ++ flat (tcellL (([]:List T) ++ [e.t])):=by rw [snoc_flat]; rfl
    dsimp only
    rw [hsp]
    exact this
  ·have hqo:=g1.obj hs
   have hcl:(pre ++ flat (tcellL (y.m.at k).q)).length = (off + (y.m.at k).q.length) * 4:=by rw [List.length_append,hpl,flat_tcellL_length,Nat.add_mul]
   have htk1:List.take ((off + (y.m.at k).q.length) * 4) (pre ++ flat (tcellL (y.m.at k).q)) = pre ++ flat (tcellL (y.m.at k).q):=List.take_of_length_le (by omega)
   have htk2:List.take ((y.m.at k).q.length * 4) (List.drop (off * 4) (pre ++ flat (tcellL (y.m.at k).q))) = flat (tcellL (y.m.at k).q):=by
    rw [List.drop_left' hpl,List.take_of_length_le (by rw [flat_tcellL_length]; exact Nat.le_refl _)]
   have hgn:∀ cs,∃ c2:MH,At c2 ((σ1.set id .dead).new (.cells cs 37 4 true)) /\ c2 (.x (2 + k)) = some (σ1.next,.cells cs 37 4 true) /\ Same c1 c2 [.x (2 + k)]:=fun cs => ⟨_,g1.grow hs _,hup_self,Same.hup (by simp)⟩
   have hsz:((y.m.at k).q.length + 1) * 56 <= 140737488355328 /\ (y.m.at k).q.length + 1 <= 4611686018427387904:=by omega
   have hin:(0:Int) <= ((y.m.at k).q.length:Int) /\ ((y.m.at k).q.length:Int) < (((y.m.at k).q.length + 1:Nat):Int):=by omega
   refine ⟨⟨⟨cv,g⟩,ho,hrng,⟨cv,g⟩,ho,hbd,.inr ⟨⟨id,off,(y.m.at k).q.length⟩,hgd.trans e1,⟨pre ++ flat (tcellL (y.m.at k).q),qg⟩,hqo,⟨hsz,Nat.le_of_eq hcl.symm⟩,?_,?_⟩⟩,⟨cv,g⟩,ho,hrng,⟨cv,g⟩,ho,hbd,.inr ⟨⟨id,off,(y.m.at k).q.length⟩,hgd.trans e1,⟨pre ++ flat (tcellL (y.m.at k).q),qg⟩,hqo,⟨hsz,Nat.le_of_eq hcl.symm⟩,?_,?_⟩⟩
   ·dsimp only
    rw [htk1]
    obtain ⟨c2,a1,a2,a3⟩:=hgn (pre ++ flat (tcellL (y.m.at k).q) ++ [.int .i64 e.t.k,.int .i64 e.t.n,.str e.t.s,.slice 4 (tcellL e.t.l) .any])
    refine ⟨⟨cv,g⟩,hcv a1 a3,hrng,rfl,rfl,rfl,⟨cv,g⟩,hcv a1 a3,hbd',?_⟩
    have:=mkA _ c2 σ1.next off pre a1 a3 (by rw [a2,snoc_flat,List.append_assoc]) hpl
    dsimp only
    rw [hset]
    exact this
   ·dsimp only
    rw [htk2]
    obtain ⟨c2,a1,a2,a3⟩:=hgn (flat (tcellL (y.m.at k).q) ++ [.int .i64 e.t.k,.int .i64 e.t.n,.str e.t.s,.slice 4 (tcellL e.t.l) .any])
    refine ⟨⟨cv,g⟩,hcv a1 a3,hrng,rfl,rfl,rfl,⟨cv,g⟩,hcv a1 a3,hbd',?_⟩
    have:=mkA _ c2 σ1.next 0 [] a1 a3 (by rw [a2,snoc_flat]; rfl) rfl
    dsimp only
    rw [hset]
    exact this
   ·dsimp only
    rw [htk1]
    obtain ⟨c2,a1,a2,a3⟩:=hgn (pre ++ flat (tcellL (y.m.at k).q) ++ z4T)
    refine ⟨⟨cv,g⟩,hcv a1 a3,hrng,⟨cv,g⟩,hcv a1 a3,hbd',?_⟩
    dsimp only
    rw [hset]
    have hzl:(pre ++ flat (tcellL (y.m.at k).q) ++ z4T).length = (off + (y.m.at k).q.length) * 4 + 4:=by rw [List.length_append,hcl]; rfl
    refine ⟨⟨pre ++ flat (tcellL (y.m.at k).q) ++ z4T,true⟩,hz a1 a3 a2,hin,⟨pre ++ flat (tcellL (y.m.at k).q) ++ z4T,true⟩,hz a1 a3 a2,by dsimp only; rw [hzl,Int.toNat_natCast]; exact Nat.le_refl _,?_⟩
    have:=mkB _ c2 σ1.next off pre _ a1 a3 a2 hpl
    have hsp:asplice (pre ++ flat (tcellL (y.m.at k).q) ++ z4T) ((off + Int.toNat ((y.m.at k).q.length:Int)) * 4) [AV.int .i64 e.t.k,.int .i64 e.t.n,.str e.t.s,.slice 4 (tcellL e.t.l) .any] = pre ++ flat (tcellL ((y.m.at k).q ++ [e.t])):=by
     rw [Int.toNat_natCast,asplice_end (z:=z4T) hcl (by rfl),snoc_flat,List.append_assoc]
    dsimp only
    rw [hsp]
    exact this
   ·dsimp only
    rw [htk2]
    obtain ⟨c2,a1,a2,a3⟩:=hgn (flat (tcellL (y.m.at k).q) ++ z4T)
    refine ⟨⟨cv,g⟩,hcv a1 a3,hrng,⟨cv,g⟩,hcv a1 a3,hbd',?_⟩
    dsimp only
    rw [hset]
    have hfl:(flat (tcellL (y.m.at k).q)).length = (0 + (y.m.at k).q.length) * 4:=by rw [flat_tcellL_length,Nat.zero_add]
    have hzl:(flat (tcellL (y.m.at k).q) ++ z4T).length = (0 + (y.m.at k).q.length) * 4 + 4:=by rw [List.length_append,hfl]; rfl
    refine ⟨⟨flat (tcellL (y.m.at k).q) ++ z4T,true⟩,hz a1 a3 a2,hin,⟨flat (tcellL (y.m.at k).q) ++ z4T,true⟩,hz a1 a3 a2,by dsimp only; rw [hzl,Int.toNat_natCast]; exact Nat.le_refl _,?_⟩
    have:=mkB _ c2 σ1.next 0 [] _ a1 a3 a2 rfl
    have hsp:asplice (flat (tcellL (y.m.at k).q) ++ z4T) ((0 + Int.toNat ((y.m.at k).q.length:Int)) * 4) [AV.int .i64 e.t.k,.int .i64 e.t.n,.str e.t.s,.slice 4 (tcellL e.t.l) .any] = [] ++ flat (tcellL ((y.m.at k).q ++ [e.t])):=by
     rw [Int.toNat_natCast,asplice_end (z:=z4T) hfl (by rfl),snoc_flat]; rfl
    dsimp only
    rw [hsp]
    exact this
end
end Go.V
/- The law StreamOnce. -/
namespace Go.V
open Go Go.Proofs

theorem rep_flat (n:Nat) (v:AV):(List.replicate n [v]).flatten = List.replicate n v:=by
 induction n with
 | zero => rfl
 | succ n ih => rw [List.replicate_succ,List.flatten_cons,ih]; rfl
theorem rnew_of (N k:Nat) (h:k < N):((RM.new N).at k).q = [] /\ ((RM.new N).at k).bh = -1:=by rw [rnew_at h]; exact ⟨rfl,rfl⟩
section
variable {B:Nat} {w0:World}
theorem H10_ok:HOk1 (EV B w0 G1) (H10 (EV B w0 G1)):=hnd_ok (EV_mixed B w0 G1) (contracts_cons c16_ok (contracts_cons c41_ok contracts_nil))
theorem once_ok (N:Int) (l:List Ev):ACalls (EV B w0 G1) 10 [.agg [.int .i64 N,.slice 7 (evL l) .any]] noObj (fun v _ => v = .bool true):=by
 refine bodyX_ok (cuts:=[]) (EV_mixed B w0 G1) H10_ok (fun lp hl _ Q a σ kk => ?_) ((vc10 B w0 G1 N l (fun y => N.toNat <= 64 /\ IA10 N.toNat y) (fun y => IA10 N.toNat y /\ y.i = N.toNat) IB10 _).mpr ⟨rfl,bcase_of (fun _ => rfl) (fun h1 => bcase_of (fun _ => rfl) (fun h2 => ?_))⟩)
 ·change lp ∈ fnParts Tryz.prog [] 10 at hl
  rw [fnParts_10] at hl
  simp only [List.mem_cons,List.not_mem_nil,or_false] at hl
  rcases hl with rfl | rfl
  ·refine handL_ok (P:=fun c Q a σ => AWp (EV B w0 G1) none (fnTmps Tryz.prog 10) c Q a σ) kk (fun _ kk => ?_) fun kk => ?_
   ·obtain ⟨y,⟨hn,hI⟩,ha,hq⟩:=kk
    exact loop10a hn hI Q a σ ha hq
   ·exact handL_ok (P:=fun c Q a σ => AWp (EV B w0 G1) none (fnTmps Tryz.prog 10) c Q a σ) kk (fun e _ => by rw [headId_10.1] at e; simp at e) (fun kk => kk.elim)
  ·refine handL_ok (P:=fun c Q a σ => AWp (EV B w0 G1) none (fnTmps Tryz.prog 10) c Q a σ) kk (fun e _ => by rw [headId_10.2] at e; simp at e) fun kk => ?_
   refine handL_ok (P:=fun c Q a σ => AWp (EV B w0 G1) none (fnTmps Tryz.prog 10) c Q a σ) kk (fun _ kk => ?_) (fun kk => kk.elim)
   obtain ⟨y,hI,ha,hq⟩:=kk
   refine awp_loopS (ls10b N l IB10) (x0:=y) (fun y hI => body10b hI) (fun y hI e a σ hne kk => ?_) hI ha
   cases e with
   | exit i =>
    match i,kk with
    | 2,kk => exact ⟨_,σ,(atF_ok (F:=[]) (FL:=[]) (R:=True) ⟨⟩).1,.refl _,hq σ⟩
   | normal => exact absurd rfl hne
   | _ => exact kk.elim
 have h1:=of_decide_eq_false h1
 have h2:=of_decide_eq_false h2
 refine ⟨noneH,N,rfl,noneH_at _,fun h => by omega,fun _ c' σ' M ⟨g1,g2,g3⟩ => ⟨⟨by omega,by omega,by omega,by omega⟩,⟨by omega,by omega,by omega,by omega⟩,?_⟩⟩
 have g2:MRep c' M (RM.new N.toNat):=g2
 have hx1:XT c':=noneH_xt.frame g3
 obtain ⟨c2,d1,d2,d3,d4⟩:∃ c2:MH,At c2 ((σ'.new (.cells (List.replicate N.toNat [AV.nilslice]).flatten 23 1 false)).new (.cells (List.replicate N.toNat [AV.int .i64 0]).flatten 3 1 false)) /\ c2 (.x 0) = some (σ'.next,.cells (List.replicate N.toNat [AV.nilslice]).flatten 23 1 false) /\
   c2 (.x 1) = some (σ'.next + 1,.cells (List.replicate N.toNat [AV.int .i64 0]).flatten 3 1 false) /\ Same c' c2 [.x 0,.x 1] :=
  ⟨_,(g1.new (.x 0) _).new (.x 1) _,(hup_ne (by simp)).trans hup_self,hup_self,(Same.hup (by simp)).trans (Same.hup (by simp))⟩
 have hM2:MRep c2 M (RM.new N.toNat):=g2.sameX _ d4 (fun q hq => by simp at hq; rcases hq with rfl | rfl; exact ⟨0,rfl⟩; exact ⟨1,rfl⟩)
 rw [rep_flat] at d2 d3
 refine ⟨⟨_,c2,M,RM.new N.toNat,σ'.next,σ'.next + 1,N.toNat,0,0,0⟩,⟨by omega,d1,hM2,rfl,rfl,⟨false,d2⟩,⟨false,?_⟩,?_,Nat.zero_le _⟩,⟨rfl,rfl,rfl,rfl,rfl,rfl,rfl,.refl _⟩,fun y' ⟨hI,hi⟩ => ?_⟩
 ·dsimp only
  rw [d3]; rfl
 ·exact hx1.set [0,1] (fun i hi => d4 _ (by simpa using hi)) (fun i hi id o eo => by
   simp at hi
   dsimp only at eo
   rcases hi with rfl | rfl
   ·rw [d2] at eo; cases eo; rfl
   ·rw [d3] at eo; cases eo; rfl)
 ·obtain ⟨gc,hc⟩:=hI.came
  obtain ⟨gb,hb⟩:=hI.beh
  have hn:=hI.n
  have hm:=hI.m
  have hlen:(RM.new N.toNat).I.length = N.toNat:=by simp [RM.new]
  refine ⟨{ y' with i:=0 },⟨hI.at_,hI.rep,by show y'.n = y'.m.I.length; rw [hm,hlen,hn],⟨⟨_,gc,hc,by rw [List.length_replicate,<-hn],fun k hk => .inl ⟨?_,?_⟩⟩,⟨gb,?_⟩,hI.xt⟩,Nat.zero_le _⟩,⟨rfl,rfl,rfl,rfl,rfl,rfl,.refl _⟩,fun σ8 => rfl⟩
  ·have hk':k < N.toNat:=by rw [<-hn]; exact hk
   simp [List.getD,hk']
  ·show (y'.m.at k).q = []
   rw [hm]; exact (rnew_of _ _ (by rw [<-hn]; exact hk)).1
  ·show y'.c (.x 1) = some (y'.ib,.cells (intsO ((List.range y'.n).map fun k => (y'.m.at k).bh)) 3 1 gb)
   rw [hb,hi,Nat.sub_self,hn,hm]
   have:(List.range N.toNat).map (fun k => ((RM.new N.toNat).at k).bh) = List.replicate N.toNat (-1):=by
    refine List.ext_getElem (by simp) fun i h1 h2 => ?_
    simp at h1
    simp [(rnew_of N.toNat i (by omega)).2]
   rw [this]
   unfold intsO
   rw [List.map_replicate]; simp
end
end Go.V
