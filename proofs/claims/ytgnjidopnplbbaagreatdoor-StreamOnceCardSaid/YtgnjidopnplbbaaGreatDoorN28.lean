import Derived.Test.YtgnjidopnplbbaaGreatDoorN27
/- The law StreamOnce: the items of an event. -/
set_option maxRecDepth 1000000
set_option linter.unusedVariables false
set_option linter.unusedSimpArgs false
set_option linter.unusedSectionVars false
namespace Go.V
open Go Go.Proofs

theorem XT.set {c c':MH} (hx:XT c) (is:List Nat) (h:∀ i,i ∉ is -> c' (.x i) = c (.x i)) (hs:∀ i ∈ is,∀ id o,c' (.x i) = some (id,o) -> isTok o = false):XT c':=fun i id o e => by
 by_cases hm:i ∈ is
 ·exact hs i hm id o e
 ·rw [h i hm] at e; exact hx i id o e
theorem MRep.sameX {c c':MH} {M:Nat} {m:RM} (h:MRep c M m) (l:List MRole) (hs:Same c c' l) (hl:∀ q ∈ l,∃ i,q = .x i):MRep c' M m:=by
 obtain ⟨L,p,h1,h2,h3⟩:=h
 exact ⟨L,p,h1,h2.frame hs fun q hq => .inr (.inr (hl q hq)),h3⟩
theorem MRep.wfX {c:MH} {M:Nat} {m:RM} (h:MRep c M m):m.Wf:=by
 obtain ⟨L0,p0,_,_,_,hW⟩:=h; exact hW
theorem parts10d:partsIn [] (bodyOf (subPart [] (fnPart Tryz.prog [] 10 1) 1)) = [.loop (bodyOf (subPart [] (subPart [] (fnPart Tryz.prog [] 10 1) 1) 0))]:=by kernel_rfl

section
variable {B:Nat} {w0:World}
theorem H10d_ok (S:Nat):HOk1 (EV B w0 G1) (H10d (EV B w0 G1) S):=hnd_ok (EV_mixed B w0 G1) (contracts_cons (c33_ok G1_noId S) contracts_nil)

theorem loop10d {N:Int} {l:List Ev} {x:List (Nat × T)} {i0:Nat} {y0:YO} (h0:ID10 i0 x y0) (Q:Post) (a:AAct) (σ:State) (ha:atF a ((ls10d N l x (ID10 i0 x)).F y0) (FL10 N l) (y0.σ.Le σ))
  (hQ:∀ y':YO,(ID10 i0 x y' /\ y'.j = x.length) -> Q (.exit 6) (frm (F10 y') (FL10 N l)) y'.σ) :
  AWp (EV B w0 G1) none (fnTmps Tryz.prog 10) (.loop (bodyOf (subPart [] (fnPart Tryz.prog [] 10 1) 1))) Q a σ:=by
 refine awp_loopS (ls10d N l x (ID10 i0 x)) (x0:=y0) (fun y hI => ?_) (fun y hI e a σ hne kk => ?_) h0 ha
 ·have hI:ID10 i0 x y:=hI
  show AWp _ _ _ _ _ (frm [(1,.l 1 0),(3,.v (.ptr y.M 0)),(5,.v (.rslice y.ic 0 y.n)),(6,.v (.rslice y.ib 0 y.n)),(8,.v (.int .i64 (y.i:Int))),(157,.v (.slice 5 (itemsO x) .any)),(158,.v (.int .i64 ((itemsO x).length:Int))),(159,.v (.int .i64 (y.j:Int)))] [(1,[.int .i64 N,.slice 7 (evL l) .any])]) y.σ
  by_cases hj:y.j < x.length
  rotate_left
  ·refine wpX_ok (H10d_ok 0) (EV_mixed B w0 G1) (L:=T10e N l x (fun _ => False)) _ _ _ _ (fun p hp hc Q a σ k => by obtain ⟨_,h,_⟩:=k; exact h.elim) (by kernel_rfl) ((vc10d B w0 G1 0 N l x (ID10 i0 x) (fun _ => False) y).mpr ?_)
   exact bcase_of (fun h => by have h:=of_decide_eq_true h; rw [itemsO_len] at h; omega) (fun _ => ⟨hj,rfl,rfl,rfl,rfl,rfl,rfl,.refl _⟩)
  have hx1:=hI.one
  have hj0:y.j = 0:=by omega
  have hget:x[y.j]? = some x[y.j]:=List.getElem?_eq_getElem hj
  have hig:=itemsO_get hj
  obtain ⟨hzn,hzf,hzc⟩:=hI.zs _ hget
  have hqp:∀ k,qpre x y.j y.m k = if k = (x[y.j]).1 then (x[y.j]).2 :: (y.m.at k).q else (y.m.at k).q:=fun k => by unfold qpre; rw [hget]
  have hqn:∀ k,qpre x (y.j + 1) y.m k = (y.m.at k).q:=fun k => by unfold qpre; rw [List.getElem?_eq_none (by omega)]
  have hson:=hI.on
  generalize hz:x[y.j] = z at *
  obtain ⟨k,t⟩:=z
  dsimp only at hzn hzf hzc hqp hig
  have hW:=hI.rep.wfX
  have hlen:=hW.w.len
  have hnn:=hI.n
  obtain ⟨⟨cv,g,c1,c2,c3⟩,⟨g',c4⟩,cx⟩:=hI.on
  have hr:=c3 k hzn
  rw [hqp k,if_pos rfl] at hr
  obtain ⟨id,off,qg,pre,e,hs,hpl⟩:∃ (id off:Nat) (qg:Bool) (pre:List AV),cv.getD k .undef = .rslice id off (t :: (y.m.at k).q).length /\ y.c (.x (2 + k)) = some (id,.cells (pre ++ flat (tcellL (t :: (y.m.at k).q))) 37 4 qg) /\ pre.length = off * 4:=by
   rcases hr with ⟨_,h⟩ | ⟨id,off,qg,pre,h1,h2,h3⟩
   ·cases h
   ·exact ⟨id,off,qg,pre,h1,h2,h3⟩
  have ho:=hI.at_.obj c1
  have hqo:=hI.at_.obj hs
  have hA2:=hI.at_.clean
  have c1c:cleanH y.c (.x 0) = some (y.ic,.cells cv 23 1 g):=clean_cells c1
  have c4c:cleanH y.c (.x 1) = some (y.ib,.cells (intsO ((List.range y.n).map fun k => (y.m.at k).bh)) 3 1 g'):=clean_cells c4
  have hsc:cleanH y.c (.x (2 + k)) = some (id,.cells (pre ++ flat (tcellL (t :: (y.m.at k).q))) 37 4 qg):=clean_cells hs
  have ho2:=hA2.obj c1c
  have hqo2:=hA2.obj hsc
  have hgd:cv.getD ((0 + Int.toNat (k:Int)) * 1) .undef = .rslice id off (t :: (y.m.at k).q).length:=by rw [Int.toNat_natCast,Nat.zero_add,Nat.mul_one]; exact e
  have hrng:(0:Int) <= (k:Int) /\ (k:Int) < (y.n:Int):=by omega
  have hbd:(0 + Int.toNat (k:Int)) * 1 < cv.length:=by rw [Int.toNat_natCast]; omega
  have hql:(t :: (y.m.at k).q).length = (y.m.at k).q.length + 1:=rfl
  have hcl:(pre ++ flat (tcellL (t :: (y.m.at k).q))).length = off * 4 + ((y.m.at k).q.length + 1) * 4:=by rw [List.length_append,hpl,flat_tcellL_length]; rfl
  -- behind the popping
  obtain ⟨v,hv⟩:∃ v,v = AV.rslice id (off + 1) ((t :: (y.m.at k).q).length - 1):=⟨_,rfl⟩
  have hset:asplice cv ((0 + Int.toNat (k:Int)) * 1) [v] = asplice cv k [v]:=by rw [Int.toNat_natCast,Nat.zero_add,Nat.mul_one]
  obtain ⟨c5,d1,d2,d3⟩:∃ c5:MH,At c5 (y.σ.untok.set y.ic (.cells (asplice cv k [v]) 23 1 g)) /\ c5 (.x 0) = some (y.ic,.cells (asplice cv k [v]) 23 1 g) /\ Same (cleanH y.c) c5 [.x 0]:=⟨_,hA2.set c1c _,hup_self,Same.hup (by simp)⟩
  have c4d:c5 (.x 1) = some (y.ib,.cells (intsO ((List.range y.n).map fun k => (y.m.at k).bh)) 3 1 g'):=(d3 _ (by simp)).trans c4c
  have hob:=d1.obj c4d
  have hxt5:XT c5:=(cx.frame (XT.clean cx)).set [0] (fun i hi => d3 _ (by simpa using hi)) (fun i hi id o eo => by simp at hi; subst hi; rw [d2] at eo; cases eo; rfl)
  have hon5:IOn c5 (fun k => (y.m.at k).q) (fun k => (y.m.at k).bh) y.n y.ic y.ib:=by
   refine hI.on.clean.upd (k:=k) c1c hzn d2 (fun i h1 h2 => d3 _ (by simpa using h1)) ?_ (fun j hj => by rw [hqp j,if_neg hj]) hxt5
   refine .inr ⟨id,off + 1,qg,pre ++ [.int .i64 t.k,.int .i64 t.n,.str t.s,.slice 4 (tcellL t.l) .any],by rw [hv]; rfl,?_,by rw [List.length_append,hpl]; show off * 4 + 4 = _; omega⟩
   rw [d3 _ (by simp),hsc,flat_cons_t,List.append_assoc]
  have hM5:MRep c5 y.M y.m:=hI.rep.clean.sameX [.x 0] d3 (fun q hq => by simp at hq; exact ⟨0,hq⟩)
  have hgb:(intsO ((List.range y.n).map fun k => (y.m.at k).bh)).getD ((0 + Int.toNat (k:Int)) * 1) .undef = .int .i64 (y.m.at k).bh:=by
   rw [Int.toNat_natCast,Nat.zero_add,Nat.mul_one]; exact intsO_range hzn
  have hbd2:(0 + Int.toNat (k:Int)) * 1 < (intsO ((List.range y.n).map fun k => (y.m.at k).bh)).length:=by rw [Int.toNat_natCast,intsO_len,List.length_map,List.length_range]; omega
  obtain ⟨zz,hzz⟩:∃ zz:YO,zz = ⟨y.σ.untok.set y.ic (.cells (asplice cv k [v]) 23 1 g),c5,y.M,y.m,y.ic,y.ib,y.n,y.i,y.j,(y.m.at k).bh⟩:=⟨_,rfl⟩
  have hzb:IE10 zz zz:=by
   subst hzz
   have hkl:k < y.m.I.length:=by omega
   refine ⟨rfl,d1,hon5,hnn,hW,?_⟩
   dsimp only
   have hrk:=hW.w.rk k hkl
   rcases hW.w.an k hkl hzf with h | ⟨h3,h4⟩
   ·exact .inl h
   ·by_cases eb:(y.m.at k).bh = -1
    ·exact .inl eb
    ·exact .inr ⟨by omega,by omega,h3,h4⟩
  refine wpX_ok (H10d_ok (SizeOf.sizeOf t + 1)) (EV_mixed B w0 G1) (L:=T10e N l x (IE10 zz)) _ _ _ _ (fun p hp hc Q a σ k => ?_) (by kernel_rfl) ((vc10d B w0 G1 (SizeOf.sizeOf t + 1) N l x (ID10 i0 x) (IE10 zz) y).mpr ?_)
  ·rw [parts10d] at hp
   simp only [List.mem_cons,List.not_mem_nil,or_false] at hp
   subst hp
   obtain ⟨y5,hP,ha,hq⟩:=k
   exact loop10e hP Q a σ ha hq
  refine bcase_of (fun _ => ?_) (fun h => by have h:=of_decide_eq_false h; rw [itemsO_len] at h; omega)
  refine ⟨⟨by omega,by rw [itemsO_len]; omega⟩,(k,t),by rw [Int.toNat_natCast]; exact hig,bcase_of (fun h => by have h:=of_decide_eq_true h; omega) (fun _ => ?_)⟩
  refine ⟨⟨cv,g⟩,ho,hrng,⟨cv,g⟩,ho,hbd,.inr ⟨⟨id,off,(t :: (y.m.at k).q).length⟩,hgd,bcase_of (fun h => by simp at h; omega) (fun _ => ?_)⟩⟩
  refine ⟨⟨cv,g⟩,ho,hrng,⟨cv,g⟩,ho,hbd,.inr ⟨⟨id,off,(t :: (y.m.at k).q).length⟩,hgd,?_⟩⟩
  refine ⟨⟨_,qg⟩,hqo,⟨by omega,by show (0:Int) < ((t :: (y.m.at k).q).length:Int); omega⟩,⟨pre ++ flat (tcellL (t :: (y.m.at k).q)),qg⟩,hqo,by dsimp only; rw [hcl]; omega,t,?_,t,t,rfl,⟨chk_small hzc,Nat.lt_succ_self _⟩,bcase_of (fun h => by rw [same_refl_aux.1 t] at h; cases h) (fun _ => ?_)⟩
  ·dsimp only
   rw [Nat.add_zero,List.drop_left' hpl,flat_cons_t]; rfl
  refine ⟨⟨cv,g⟩,ho2,hrng,⟨cv,g⟩,ho2,hbd,.inr ⟨⟨id,off,(t :: (y.m.at k).q).length⟩,hgd,?_⟩⟩
  refine ⟨⟨_,qg⟩,hqo2,⟨by omega,by show (1:Int) <= ((t :: (y.m.at k).q).length:Int); omega⟩,⟨cv,g⟩,ho2,hrng,⟨cv,g⟩,ho2,Nat.succ_le_of_lt hbd,?_⟩
  dsimp only
  rw [<-hv,hset]
  refine ⟨⟨_,g'⟩,hob,hrng,⟨_,g'⟩,hob,hbd2,(y.m.at k).bh,hgb,zz,hzb,?_,fun y' hy' => ?_⟩
  ·subst hzz; exact ⟨rfl,rfl,rfl,rfl,rfl,rfl,rfl,rfl,rfl,rfl,.refl _⟩
  ·have e1:=hy'.eq
   rw [hzz] at e1
   have w1:IntKind.wrap .i64 ((y'.j:Int) + 1) = ((y'.j + 1:Nat):Int):=by rw [e1]; dsimp only; rw [wr_small (by omega) (by omega)]; omega
   refine ⟨{ y' with j:=y'.j + 1 },⟨?_,?_⟩,rfl,rfl,rfl,rfl,rfl,rfl,rfl,by rw [w1],rfl,.refl _⟩
   ·rw [e1]
    exact ⟨d1,hM5,hnn,hon5.ext rfl (fun j _ => hqn j) (fun _ _ => rfl),hx1,by show y.j + 1 <= x.length; omega,hI.i,fun z hz' => by rw [List.getElem?_eq_none (by show x.length <= y.j + 1; omega)] at hz'; cases hz'⟩
   ·rw [e1]; show x.length - (y.j + 1) < x.length - y.j; omega
 ·cases e with
  | exit i =>
   match i,kk with
   | 6,kk =>
    have hI:ID10 i0 x y:=hI
    exact ⟨_,_,(atF_ok kk.2).1,(atF_ok kk.2).2,hQ y ⟨hI,by have:=hI.j; have:=kk.1; omega⟩⟩
  | normal => exact absurd rfl hne
  | _ => exact kk.elim
end
end Go.V
/- The law StreamOnce: the first loop, a split's inputs. -/
namespace Go.V
open Go Go.Proofs

structure IA10 (N:Nat) (y:YO):Prop where
 at_:At y.c y.σ
 rep:MRep y.c y.M y.m
 m:y.m = RM.new N
 n:y.n = N
 came:∃ g,y.c (.x 0) = some (y.ic,.cells (List.replicate N .nilslice) 23 1 g)
 beh:∃ g,y.c (.x 1) = some (y.ib,.cells (List.replicate y.i (.int .i64 (-1)) ++ List.replicate (N - y.i) (.int .i64 0)) 3 1 g)
 xt:XT y.c
 i:y.i <= N
structure IC10 (i0:Nat) (g:GO) (L c:Nat) (y:YO):Prop where
 at_:At y.c y.σ
 rep:MRep y.c y.M y.m
 on:IOn y.c (fun k => (y.m.at k).q) (fun k => (y.m.at k).bh) y.n y.ic y.ib
 n:y.n = L + y.j
 len:y.m.I.length = L + c
 out:g.out = List.range' L c
 err:g.err ≠ 0 -> c = 0
 big:L + c <= 4096
 new:∀ k,L <= k -> k < L + c -> (y.m.at k).q = [] /\ (y.m.at k).bh = g.e.i
 j:y.j <= c
 i:y.i = i0
theorem range_map_succ (b:Nat -> Int) (n:Nat):intsO ((List.range (n + 1)).map b) = intsO ((List.range n).map b) ++ [.int .i64 (b n)]:=by
 unfold intsO; rw [List.range_succ,List.map_append,List.map_append]; rfl
theorem getD_app_lt (A B:List AV) (k:Nat) (d:AV) (h:k < A.length):(A ++ B).getD k d = A.getD k d:=by
 simp only [List.getD]; rw [List.getElem?_append_left h]

section
variable {B:Nat} {w0:World}
theorem loop10a {N:Int} {l:List Ev} {n0:Nat} (hn:n0 <= 64) {y0:YO} (h0:IA10 n0 y0) (Q:Post) (a:AAct) (σ:State) (ha:atF a ((ls10a N l (IA10 n0)).F y0) (FL10 N l) (y0.σ.Le σ))
  (hQ:∀ y':YO,(IA10 n0 y' /\ y'.i = n0) -> Q (.exit 0) (frm [(1,.l 1 0),(3,.v (.ptr y'.M 0)),(5,.v (.rslice y'.ic 0 y'.n)),(6,.v (.rslice y'.ib 0 y'.n))] (FL10 N l)) y'.σ) :
  AWp (EV B w0 G1) none (fnTmps Tryz.prog 10) (.loop (bodyOf (fnPart Tryz.prog [] 10 0))) Q a σ:=by
 refine awp_loopS (ls10a N l (IA10 n0)) (x0:=y0) (fun y hI => ?_) (fun y hI e a σ hne kk => ?_) h0 ha
 ·have hI:IA10 n0 y:=hI
  show AWp _ _ _ _ _ (frm [(1,.l 1 0),(3,.v (.ptr y.M 0)),(5,.v (.rslice y.ic 0 y.n)),(6,.v (.rslice y.ib 0 y.n)),(48,.v (.int .i64 (y.n:Int))),(49,.v (.int .i64 (y.i:Int)))] [(1,[.int .i64 N,.slice 7 (evL l) .any])]) y.σ
  refine wpX_ok H0_ok (EV_mixed B w0 G1) (L:=fun _ _ _ _ => False) _ _ _ _ (fun p hp hc Q a σ k => k.elim) (by kernel_rfl) ((vc10a B w0 G1 N l (IA10 n0) y).mpr (bcase_of (fun h => ?_) (fun h => ⟨fun h2 => by have h:=of_decide_eq_false h; omega,rfl,rfl,rfl,rfl,rfl,.refl _⟩)))
  have h:=of_decide_eq_true h
  have hnn:=hI.n
  have hi:=hI.i
  obtain ⟨g,hb⟩:=hI.beh
  obtain ⟨g0,hc⟩:=hI.came
  have ho:=hI.at_.obj hb
  have w1:IntKind.wrap .i64 ((y.i:Int) + 1) = ((y.i + 1:Nat):Int):=by rw [wr_small (by omega) (by omega)]; omega
  have hlen:(List.replicate y.i (AV.int .i64 (-1)) ++ List.replicate (n0 - y.i) (AV.int .i64 0)).length = n0:=by simp; omega
  have hset:asplice (List.replicate y.i (AV.int .i64 (-1)) ++ List.replicate (n0 - y.i) (.int .i64 0)) ((0 + Int.toNat (y.i:Int)) * 1) [.int .i64 (-1)] = List.replicate (y.i + 1) (AV.int .i64 (-1)) ++ List.replicate (n0 - (y.i + 1)) (.int .i64 0):=by
   rw [Int.toNat_natCast,Nat.zero_add,Nat.mul_one]
   obtain ⟨d,hd⟩:∃ d,n0 - y.i = d + 1:=⟨n0 - y.i - 1,by omega⟩
   have hd2:n0 - (y.i + 1) = d:=by omega
   rw [hd,hd2,List.replicate_succ]
   have:=asplice_mid (A:=List.replicate y.i (AV.int .i64 (-1))) (B:=List.replicate d (AV.int .i64 0)) (x:=.int .i64 0) (y:=.int .i64 (-1))
   rw [List.length_replicate] at this
   rw [this,List.replicate_succ',List.append_assoc]; rfl
  refine ⟨⟨_,g⟩,ho,⟨by omega,h⟩,⟨List.replicate y.i (AV.int .i64 (-1)) ++ List.replicate (n0 - y.i) (.int .i64 0),g⟩,ho,by dsimp only; rw [hlen,Int.toNat_natCast]; omega,?_⟩
  dsimp only
  rw [hset]
  obtain ⟨c2,d1,d2,d3⟩:∃ c2:MH,At c2 (y.σ.set y.ib (.cells (List.replicate (y.i + 1) (AV.int .i64 (-1)) ++ List.replicate (n0 - (y.i + 1)) (.int .i64 0)) 3 1 g)) /\ c2 (.x 1) = some (y.ib,.cells (List.replicate (y.i + 1) (AV.int .i64 (-1)) ++ List.replicate (n0 - (y.i + 1)) (.int .i64 0)) 3 1 g) /\ Same y.c c2 [.x 1]:=⟨_,hI.at_.set hb _,hup_self,Same.hup (by simp)⟩
  refine ⟨⟨_,c2,y.M,y.m,y.ic,y.ib,y.n,y.i + 1,y.j,y.b⟩,⟨⟨d1,hI.rep.sameX [.x 1] d3 (fun q hq => by simp at hq; exact ⟨1,hq⟩),hI.m,hnn,⟨g0,(d3 _ (by simp)).trans hc⟩,⟨g,d2⟩,hI.xt.set [1] (fun i hi => d3 _ (by simpa using hi)) (fun i hi id o eo => by simp at hi; subst hi; dsimp only at eo; rw [d2] at eo; cases eo; rfl),by show y.i + 1 <= n0; omega⟩,by show y.n - (y.i + 1) < y.n - y.i; omega⟩,rfl,rfl,rfl,rfl,rfl,by rw [w1],rfl,.refl _⟩
 ·cases e with
  | exit i =>
   match i,kk with
   | 0,kk =>
    have hI:IA10 n0 y:=hI
    exact ⟨_,_,(atF_ok kk.2).1,(atF_ok kk.2).2,hQ y ⟨hI,by have:=hI.i; have:=hI.n; have:=kk.1; omega⟩⟩
  | normal => exact absurd rfl hne
  | _ => exact kk.elim

theorem loop10c {N:Int} {l:List Ev} {g:GO} {L c i0:Nat} {y0:YO} (h0:IC10 i0 g L c y0) (Q:Post) (a:AAct) (σ:State) (ha:atF a (F10c g.out g.err y0) (FL10c N l g.e) (y0.σ.Le σ))
  (hQ:∀ y':YO,(IC10 i0 g L c y' /\ y'.j = c) -> Q (.exit 4) (frm (F10 y') (FL10 N l)) y'.σ) :
  AWp (EV B w0 G1) none (fnTmps Tryz.prog 10) (.loop (bodyOf (subPart [] (fnPart Tryz.prog [] 10 1) 0))) Q a σ:=by
 refine awp_loopS (ls10c N l g (IC10 i0 g L c)) (x0:=y0) (fun y hI => ?_) (fun y hI e a σ hne kk => ?_) h0 ha
 ·have hI:IC10 i0 g L c y:=hI
  show AWp _ _ _ _ _ (frm (F10c g.out g.err y) (FL10c N l g.e)) y.σ
  have hout:=hI.out
  have hj:=hI.j
  have hol:g.out.length = c:=by rw [hout,List.length_range']
  refine wpX_ok H0_ok (EV_mixed B w0 G1) (L:=fun _ _ _ _ => False) _ _ _ _ (fun p hp hc Q a σ k => k.elim) (by kernel_rfl) ((vc10c B w0 G1 N l g (IC10 i0 g L c) y).mpr (bcase_of (fun h => ?_) (fun h => ⟨fun h2 => by have h:=of_decide_eq_false h; rw [intsV_len] at h; omega,rfl,rfl,rfl,rfl,rfl,rfl,.refl _⟩)))
  have h:=of_decide_eq_true h
  have hjc:y.j < c:=by rw [intsV_len,hol] at h; omega
  have hbig:=hI.big
  have hnn:=hI.n
  have w1:IntKind.wrap .i64 ((y.j:Int) + 1) = ((y.j + 1:Nat):Int):=by rw [wr_small (by omega) (by omega)]; omega
  have hgo:AV.vptr (AV.cells (List.getD (intsV g.out) (Int.toNat (y.j:Int)) .undef)) = .vptr [.int .i64 ((L + y.j:Nat):Int)]:=by
   rw [Int.toNat_natCast,intsV_get (by omega)]
   have:g.out[y.j]'(by omega) = L + y.j:=by simp [hout]
   rw [this]; rfl
  have herr:g.err = 0:=by
   by_cases e:g.err = 0
   ·exact e
   ·have:=hI.err e; omega
  obtain ⟨⟨cv,gc,c1,c2,c3⟩,⟨gb,c4⟩,cx⟩:=hI.on
  have ho:=hI.at_.obj c1
  have htk:List.take (y.n * 1) cv = cv:=List.take_of_length_le (by omega)
  have hA1:=hI.at_.grow c1 (.cells (cv ++ [.nilslice]) 23 1 true)
  have c41:hup y.c (.x 0) (some (y.σ.next,.cells (cv ++ [.nilslice]) 23 1 true)) (.x 1) = some (y.ib,.cells (intsO ((List.range y.n).map fun k => (y.m.at k).bh)) 3 1 gb):=(hup_ne (by simp)).trans c4
  have hbl:(intsO ((List.range y.n).map fun k => (y.m.at k).bh)).length = y.n:=by rw [intsO_len,List.length_map,List.length_range]
  have htk2:List.take (y.n * 1) (intsO ((List.range y.n).map fun k => (y.m.at k).bh)) = intsO ((List.range y.n).map fun k => (y.m.at k).bh):=List.take_of_length_le (by omega)
  obtain ⟨hnq,hnb⟩:=hI.new y.n (by omega) (by omega)
  refine ⟨⟨by omega,h⟩,L + y.j,hgo,bcase_of (fun h => by simp [herr] at h) (fun _ => bcase_of (fun h => by simp at h; omega) (fun _ => ?_))⟩
  refine ⟨⟨cv,gc⟩,ho,⟨rfl,⟨by omega,by omega⟩,by dsimp only; omega⟩,?_⟩
  dsimp only
  rw [htk]
  refine ⟨⟨intsO ((List.range y.n).map fun k => (y.m.at k).bh),gb⟩,hA1.obj c41,⟨rfl,⟨by omega,by omega⟩,by dsimp only; omega⟩,?_⟩
  dsimp only
  rw [htk2]
  obtain ⟨c5,d1,d2,d3,d4⟩:∃ c5:MH,At c5 ((((y.σ.set y.ic .dead).new (.cells (cv ++ [.nilslice]) 23 1 true)).set y.ib .dead).new (.cells (intsO ((List.range y.n).map fun k => (y.m.at k).bh) ++ [.int .i64 g.e.i]) 3 1 true)) /\ c5 (.x 0) = some (y.σ.next,.cells (cv ++ [.nilslice]) 23 1 true) /\
    c5 (.x 1) = some (y.σ.next + 1,.cells (intsO ((List.range y.n).map fun k => (y.m.at k).bh) ++ [.int .i64 g.e.i]) 3 1 true) /\ Same y.c c5 [.x 0,.x 1] :=
   ⟨_,hA1.grow c41 _,(hup_ne (by simp)).trans hup_self,hup_self,(Same.hup (by simp)).trans (Same.hup (by simp))⟩
  have hxt:XT c5:=cx.set [0,1] (fun i hi => d4 _ (by simpa using hi)) (fun i hi id o eo => by
   simp at hi
   rcases hi with rfl | rfl
   ·rw [d2] at eo; cases eo; rfl
   ·rw [d3] at eo; cases eo; rfl)
  refine ⟨⟨_,c5,y.M,y.m,y.σ.next,y.σ.next + 1,y.n + 1,y.i,y.j + 1,y.b⟩,⟨⟨d1,hI.rep.sameX [.x 0,.x 1] d4 (fun q hq => by simp at hq; rcases hq with rfl | rfl; exact ⟨0,rfl⟩; exact ⟨1,rfl⟩),⟨⟨cv ++ [.nilslice],true,d2,by simp [c2],fun k hk => ?_⟩,⟨true,?_⟩,hxt⟩,by show y.n + 1 = L + (y.j + 1); omega,hI.len,hout,hI.err,hbig,hI.new,hjc,hI.i⟩,by show g.out.length - (y.j + 1) < g.out.length - y.j; omega⟩,rfl,rfl,rfl,rfl,rfl,rfl,rfl,rfl,rfl,by rw [w1],rfl,rfl,.refl _⟩
  ·dsimp only at hk ⊢
   by_cases e:k < y.n
   ·rw [getD_app_lt _ _ _ _ (by omega)]
    exact (c3 k e).congr (d4 _ (by simp; omega))
   ·obtain rfl:k = y.n:=by omega
    refine .inl ⟨?_,hnq⟩
    simp only [List.getD]
    rw [List.getElem?_append_right (by omega),c2,Nat.sub_self]; rfl
  ·dsimp only
   rw [range_map_succ,hnb]; exact d3
 ·cases e with
  | exit i =>
   match i,kk with
   | 4,kk =>
    have hI:IC10 i0 g L c y:=hI
    exact ⟨_,_,(atF_ok kk.2).1,(atF_ok kk.2).2,hQ y ⟨hI,by have:=hI.j; have h2:=kk.1; rw [hI.out,List.length_range'] at h2; omega⟩⟩
  | normal => exact absurd rfl hne
  | _ => exact kk.elim
end
end Go.V
