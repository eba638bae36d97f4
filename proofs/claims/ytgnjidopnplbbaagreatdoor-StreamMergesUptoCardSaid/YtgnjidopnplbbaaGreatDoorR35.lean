import Derived.Test.YtgnjidopnplbbaaGreatDoorR34
/- Merge of the program: what events do; the rounds. -/
set_option maxRecDepth 1000000
set_option linter.unusedVariables false
set_option linter.unusedSimpArgs false
set_option linter.unusedSectionVars false
namespace Go.V
open Go Go.Proofs

theorem MRep.same {c c':MH} {M:Nat} {m:RM} {l:List MRole} (h:MRep c M m) (hs:Same c c' l) (hl:∀ q ∈ l,∃ i,q = .x i):MRep c' M m:=by
 obtain ⟨L,p,h1,h2,h3⟩:=h
 exact ⟨L,p,h1,h2.frame hs fun q hq => .inr (.inr (hl q hq)),h3⟩
theorem ItAt.frame {c c':MH} {p:Nat} {acc:List (Nat × T)} (h:ItAt c p acc) (hf:Frame' c c'):ItAt c' p acc:=by
 obtain ⟨iv,g,h1,h2⟩:=h
 exact ⟨iv,g,(hf 0).trans h1,h2.congr (hf 1)⟩
theorem mrun_step {m:RM} {acc:List (Nat × T)} {l:List Ev} {i:Nat} (h:i < l.length):mrun m acc (l.drop i) = if (m.doR l[i]).2.2 ≠ 0 then ([],false,(m.doR l[i]).2.2) else mrun (m.doR l[i]).1 (acc ++ (m.doR l[i]).2.1) (l.drop (i + 1)):=by
 rw [List.drop_eq_getElem_cons h]; rfl

structure IM57 (l:List Ev) (n:Nat) (y:Y57):Prop where
 at_:At y.c y.σ
 rep:MRep y.c y.M y.m
 xt:XT y.c
 it:ItAt y.c y.p y.acc
 i:y.i <= l.length
 acc:y.acc.length <= y.i
 run:mrun (RM.new n) [] l = mrun y.m y.acc (l.drop y.i)
theorem XT.two {c c':MH} {a b:Nat × AObj} (hx:XT c) (hs:Same c c' [.x 0,.x 1]) (h0:c' (.x 0) = some a) (h1:c' (.x 1) = some b) (ha:isTok a.2 = false) (hb:isTok b.2 = false):XT c':=fun i id o e => by
 by_cases e0:i = 0
 ·subst e0; rw [h0] at e; cases e; exact ha
 ·by_cases e1:i = 1
  ·subst e1; rw [h1] at e; cases e; exact hb
  ·rw [hs (.x i) (by simp; omega)] at e
   exact hx i id o e

section
variable {B:Nat} {w0:World} {G:Nat -> AV}
variable (hG:∀ i,NoId (G i))
include hG
theorem H259_ok:HOk1 (EV B w0 G) (H259 (EV B w0 G)):=hnd_ok (EV_mixed B w0 G) (contracts_cons (c43_ok hG) (contracts_cons (c56_ok hG) (contracts_cons (c42_ok hG) (contracts_cons (c44s_ok hG) contracts_nil))))
theorem c259_ok:ContractOk (EV B w0 G) 259 C259:=by
 rintro args σ Q ⟨c,M,m,i,t,rfl,⟨hA,hM,hX⟩,hQ⟩
 exact bodyC_ok (EV_mixed B w0 G) (H259_ok hG) (fun l hl _ Q a σ k => k.elim) ((vc259 B w0 G σ M i t Q).mpr ⟨c,M,m,i,t,rfl,⟨hA,hM,hX⟩,hQ⟩)
theorem c260_ok:ContractOk (EV B w0 G) 260 C260:=by
 rintro args σ Q ⟨c,M,m,i,rfl,⟨hA,hM⟩,hQ⟩
 exact bodyC_ok (EV_mixed B w0 G) (H259_ok hG) (fun l hl _ Q a σ k => k.elim) ((vc260 B w0 G σ M i Q).mpr ⟨c,M,m,i,rfl,⟨hA,hM⟩,hQ⟩)
theorem c261_ok:ContractOk (EV B w0 G) 261 C261:=by
 rintro args σ Q ⟨c,M,m,i,n,rfl,⟨hA,hM⟩,hQ⟩
 exact bodyC_ok (EV_mixed B w0 G) (H259_ok hG) (fun l hl _ Q a σ k => k.elim) ((vc261 B w0 G σ M i n Q).mpr ⟨c,M,m,i,n,rfl,⟨hA,hM⟩,hQ⟩)
theorem c262_ok:ContractOk (EV B w0 G) 262 C262:=by
 rintro args σ Q ⟨c,M,m,p,acc,rfl,⟨hA,hM,hI,hacc,hX⟩,hQ⟩
 refine bodyC_ok (EV_mixed B w0 G) (H259_ok hG) (fun l hl _ Q a σ k => k.elim) ((vc262 B w0 G σ M p Q).mpr ⟨c,M,m,rfl,⟨hA,hM⟩,fun hn c' σ' ⟨g1,g2,g3⟩ => ?_,fun x hx c' σ' ⟨g1,g2,g3⟩ => ?_⟩)
 ·refine hQ c' σ' ⟨g1,?_,?_,hX.frame g3⟩
  ·have e:m.next.1 = m:=by
    unfold RM.next at hn ⊢
    cases ht:m.turn with
    | nil => rfl
    | cons k r =>
     rw [ht] at hn
     dsimp only at hn ⊢
     cases hq:(m.at k).q with
     | nil => rfl
     | cons t q => rw [hq] at hn; cases hn
   rw [e]; exact g2
  ·rw [hn]
   show ItAt c' p (acc ++ [])
   rw [List.append_nil]; exact hI.frame g3
 ·obtain ⟨iv,g,h1,h2⟩:=hI.frame g3
  have ho:=g1.obj h1
  rw [hx] at hQ
  have hne:∀ {σ'':State} {c2:MH} {iv2:AV},At c2 σ'' -> Same c' c2 [.x 0,.x 1] -> c2 (.x 0) = some (p,.cells [iv2] 97 1 g) -> SlAt c2 (.x 1) 88 5 iv2 (flat (itemsV (acc ++ [x]))) -> XT c2 -> Q (.int .i64 0) σ'':=fun a1 a2 a3 a4 a5 =>
   hQ _ _ ⟨a1,g2.same a2 (fun q hq => by simp at hq; rcases hq with rfl | rfl; exact ⟨0,rfl⟩; exact ⟨1,rfl⟩),⟨_,g,a3,a4⟩,a5⟩
  rcases h2.inv with ⟨rfl,hnil⟩ | ⟨qid,n,qg,rfl,hs,hl⟩
  ·refine ⟨⟨[.nilslice],g⟩,ho,by simp,.inl ⟨rfl,⟨by decide,by decide⟩,rfl,rfl,⟨[.nilslice],g⟩,?_,by simp,?_⟩⟩
   ·have:=(g1.new (.x 1) (.cells [.int .i64 (x.1:Int),.int .i64 x.2.k,.int .i64 x.2.n,.str x.2.s,.slice 4 (tcellL x.2.l) .any] 88 5 true)).obj ((hup_ne (by simp)).trans h1)
    exact this
   ·obtain ⟨c2,b1,b2,b3,b4⟩:∃ c2:MH,At c2 ((σ'.new (.cells [.int .i64 (x.1:Int),.int .i64 x.2.k,.int .i64 x.2.n,.str x.2.s,.slice 4 (tcellL x.2.l) .any] 88 5 true)).set p (.cells [.rslice σ'.next 0 1] 97 1 g)) /\ c2 (.x 0) = some (p,.cells [.rslice σ'.next 0 1] 97 1 g) /\
      c2 (.x 1) = some (σ'.next,.cells [.int .i64 (x.1:Int),.int .i64 x.2.k,.int .i64 x.2.n,.str x.2.s,.slice 4 (tcellL x.2.l) .any] 88 5 true) /\ Same c' c2 [.x 0,.x 1] :=
     ⟨_,(g1.new (.x 1) _).set ((hup_ne (by simp)).trans h1) _,hup_self,(hup_ne (by simp)).trans hup_self,(Same.hup (by simp)).trans (Same.hup (by simp))⟩
    refine hne b1 b4 b2 ?_ ((hX.frame g3).two b4 b2 b3 rfl rfl)
    rw [itemsV_snoc,hnil]
    exact .row _ 1 true _ b3 rfl
  ·rw [flat_itemsV_len] at hl
   have hn:n = acc.length:=by omega
   subst hn
   have hqo:=g1.obj hs
   have htk:List.take (acc.length * 5) (flat (itemsV acc)) = flat (itemsV acc):=List.take_of_length_le (by rw [flat_itemsV_len]; exact Nat.le_refl _)
   have hgr:=g1.grow hs (.cells (flat (itemsV acc) ++ [.int .i64 (x.1:Int),.int .i64 x.2.k,.int .i64 x.2.n,.str x.2.s,.slice 4 (tcellL x.2.l) .any]) 88 5 true)
   refine ⟨⟨[.rslice qid 0 acc.length],g⟩,ho,by simp,.inr ⟨⟨qid,acc.length⟩,rfl,⟨flat (itemsV acc),qg⟩,hqo,⟨rfl,⟨by dsimp only; omega,by dsimp only; omega⟩,by dsimp only; rw [flat_itemsV_len]; exact Nat.le_refl _⟩,rfl,rfl,?_⟩⟩
   dsimp only
   rw [htk]
   refine ⟨⟨[.rslice qid 0 acc.length],g⟩,hgr.obj ((hup_ne (by simp)).trans h1),by simp,?_⟩
   obtain ⟨c2,b1,b2,b3,b4⟩:∃ c2:MH,At c2 ((((σ'.set qid .dead).new (.cells (flat (itemsV acc) ++ [.int .i64 (x.1:Int),.int .i64 x.2.k,.int .i64 x.2.n,.str x.2.s,.slice 4 (tcellL x.2.l) .any]) 88 5 true))).set p (.cells [.rslice σ'.next 0 (acc.length + 1)] 97 1 g)) /\ c2 (.x 0) = some (p,.cells [.rslice σ'.next 0 (acc.length + 1)] 97 1 g) /\
     c2 (.x 1) = some (σ'.next,.cells (flat (itemsV acc) ++ [.int .i64 (x.1:Int),.int .i64 x.2.k,.int .i64 x.2.n,.str x.2.s,.slice 4 (tcellL x.2.l) .any]) 88 5 true) /\ Same c' c2 [.x 0,.x 1] :=
    ⟨_,hgr.set ((hup_ne (by simp)).trans h1) _,hup_self,(hup_ne (by simp)).trans hup_self,(Same.hup (by simp)).trans (Same.hup (by simp))⟩
   refine hne b1 b4 b2 ?_ ((hX.frame g3).two b4 b2 b3 rfl rfl)
   rw [itemsV_snoc]
   exact .row _ (acc.length + 1) true _ b3 (by rw [List.length_append,flat_itemsV_len]; show acc.length * 5 + 5 = _; omega)
end
end Go.V
/- Merge of the program. -/
namespace Go.V
open Go Go.Proofs

theorem do_len (m:RM) (e:Ev):(m.do e).2.1.length <= 1:=by
 unfold RM.do
 split
 ·exact Nat.zero_le _
 split
 ·exact Nat.zero_le _
 split
 ·exact Nat.zero_le _
 cases m.next.2 with
 | none => exact Nat.zero_le _
 | some x => exact Nat.le_refl _
theorem doR_false {m:RM} {e:Ev} (h:isEv e = false):m.doR e = (m,[],1):=by unfold RM.doR; rw [h]; rfl
theorem doR_1 {m:RM} {e:Ev} (h:isEv e = true) (hk:e.k = 1):m.doR e = ((m.put e.i e.t).1,[],(m.put e.i e.t).2):=by unfold RM.doR RM.do; rw [if_pos h,if_pos hk]
theorem doR_2 {m:RM} {e:Ev} (h:isEv e = true) (hk:e.k = 2):m.doR e = ((m.close e.i).1,[],(m.close e.i).2):=by unfold RM.doR RM.do; rw [if_pos h,if_neg (by omega),if_pos hk]
theorem doR_3 {m:RM} {e:Ev} (h:isEv e = true) (hk:e.k = 3):m.doR e = ((m.split e.i e.n).1,[],(m.split e.i e.n).2.2):=by unfold RM.doR RM.do; rw [if_pos h,if_neg (by omega),if_neg (by omega),if_pos hk]
theorem doR_4 {m:RM} {e:Ev} (h:isEv e = true) (hk:e.k = 4):m.doR e = (m.next.1,m.next.2.toList,0):=by unfold RM.doR RM.do; rw [if_pos h,if_neg (by omega),if_neg (by omega),if_neg (by omega)]
theorem doR_len (m:RM) (e:Ev):(m.doR e).2.1.length <= 1:=by
 unfold RM.doR
 split
 ·exact do_len m e
 ·exact Nat.zero_le _
theorem chunk_items:∀ l:List (Nat × T),chunk (some 5) (flat (itemsV l)) l.length = itemsV l
 | [] => rfl
 | x :: l => by
  show chunk (some 5) (flat (itemC x :: itemsV l)) (l.length + 1) = itemC x :: itemsV l
  rw [flat_cons]
  show AV.agg ((([.int .i64 (x.1:Int),.int .i64 x.2.k,.int .i64 x.2.n,.str x.2.s,.slice 4 (tcellL x.2.l) .any]:List AV) ++ flat (itemsV l)).take 5) :: chunk (some 5) ((([.int .i64 (x.1:Int),.int .i64 x.2.k,.int .i64 x.2.n,.str x.2.s,.slice 4 (tcellL x.2.l) .any]:List AV) ++ flat (itemsV l)).drop 5) l.length = _
  rw [List.take_left' (by rfl),List.drop_left' (by rfl),chunk_items l]; rfl
theorem kind88:kindT Tryz.prog 88 = some (some 5):=by kernel_rfl
theorem deep_items (P:Program) (σ:State) (l:List (Nat × T)) (n:Nat) (h:2 * SizeOf.sizeOf l + 6 < n):(itemsV l).mapM (deep P σ n) = some (itemsV l):=by
 refine mapM_some fun y hy => ?_
 obtain ⟨x,hx,rfl⟩:=List.mem_map.1 hy
 have h1:=List.sizeOf_lt_of_mem hx
 have h2:=pair_size x
 have h3:=T.sizeOf_l x.2
 exact deep_itemC P σ x n (by omega)
theorem items_deep {c:MH} {σ:State} {r:MRole} {v:AV} {l:List (Nat × T)} (hA:At c σ) (h:v = .nilslice /\ l = [] \/ ∃ id g,v = .rslice id 0 l.length /\ c r = some (id,.cells (flat (itemsV l)) 88 5 g)) (n:Nat) (hn:2 * SizeOf.sizeOf l + 8 < n):∃ v',deep Tryz.prog σ n v = some v' /\ Wk v' (.slice 5 (itemsV l) .any):=by
 obtain ⟨n,rfl⟩:∃ k,n = k + 1:=⟨n - 1,by omega⟩
 rcases h with ⟨rfl,rfl⟩ | ⟨id,g,rfl,h⟩
 ·exact ⟨.nilslice,rfl,Wk.nil 5⟩
 ·refine ⟨.slice 5 (itemsV l) .nn,deep_rslice (hA.obj h) kind88 rfl (by omega) (by rw [flat_itemsV_len]; omega) ?_,Wk.slice 5 _ _⟩
  rw [Nat.zero_mul,List.drop_zero,List.take_of_length_le (by rw [flat_itemsV_len]; exact Nat.le_refl _),chunk_items]
  exact deep_items _ _ l n (by omega)
theorem ev_list_noId (l:List Ev):NoId (.slice 7 (evL l) .any):=.slice (by simp) fun y hy => by
 unfold evL flat at hy
 rw [List.mem_flatMap] at hy
 obtain ⟨x,hx,hy⟩:=hy
 obtain ⟨e,_,rfl⟩:=List.mem_map.1 hx
 unfold Ev.v at hy
 simp only [AV.cells,List.mem_cons,List.not_mem_nil,or_false] at hy
 rcases hy with rfl | rfl | rfl | rfl | rfl | rfl | rfl
 ·exact .int _ _
 ·exact .int _ _
 ·exact .int _ _
 ·exact .int _ _
 ·exact .int _ _
 ·exact .str _
 ·exact .slice (by simp) (tcellL_noId e.t.l).2

section
variable {B:Nat} {w0:World} {G:Nat -> AV}
variable (hG:∀ i,NoId (G i))
include hG
theorem H57l_ok:HOk1 (EV B w0 G) (H57l (EV B w0 G)):=hnd_ok (EV_mixed B w0 G) (contracts_cons c102_ok (contracts_cons (c259_ok hG) (contracts_cons (c260_ok hG) (contracts_cons (c261_ok hG) (contracts_cons (c262_ok hG) contracts_nil)))))
theorem H57_ok:HOk1 (EV B w0 G) (H57 (EV B w0 G)):=hnd_ok (EV_mixed B w0 G) (contracts_cons c41_ok (contracts_cons c47r_ok contracts_nil))

theorem loop57 {l:List Ev} {N:Nat} (hl:l.length <= 40000) {y0:Y57} (h0:IM57 l N y0) (Q:Post) (a:AAct) (σ:State) (ha:atF a ((ls57 l (IM57 l N)).F y0) [] (y0.σ.Le σ))
  (h1:∀ y':Y57,(IM57 l N y' /\ y'.i = l.length) -> Q (.exit 0) (frm [(7,.v (.ptr y'.M 0)),(9,.v (.ptr y'.p 0))] []) y'.σ)
  (h2:∀ (err:Int) (σ1:State),mrun (RM.new N) [] l = ([],false,err) -> Q .ret (frm [(4,.v .nilslice),(5,.v (.bool false)),(6,.v (.int .i64 err))] []) σ1) :
  AWp (EV B w0 G) none (fnTmps Tryz.prog 57) (.loop (bodyOf (fnPart Tryz.prog [] 57 0))) Q a σ:=by
 refine awp_loopS (ls57 l (IM57 l N)) (x0:=y0) (fun y hI => ?_) (fun y hI e a σ hne kk => ?_) h0 ha
 ·have hI:IM57 l N y:=hI
  show AWp _ _ _ _ _ (frm [(7,.v (.ptr y.M 0)),(9,.v (.ptr y.p 0)),(25,.v (.slice 7 (evL l) .any)),(26,.v (.int .i64 ((evL l).length:Int))),(27,.v (.int .i64 (y.i:Int)))] []) y.σ
  refine wpX_ok (H57l_ok hG) (EV_mixed B w0 G) (L:=fun _ _ _ _ => False) _ _ _ _ (fun p hp hc Q a σ k => k.elim) (by kernel_rfl) ((vc57l B w0 G l (IM57 l N) y).mpr (bcase_of (fun h => ?_) (fun h => ⟨fun h2 => by have h:=of_decide_eq_false h; rw [evL_len] at h; omega,rfl,rfl,.refl _⟩)))
  have h:=of_decide_eq_true h
  have hi:y.i < l.length:=by rw [evL_len] at h; omega
  have hget:AV.vptr (AV.cells (List.getD (evL l) (Int.toNat (y.i:Int)) .undef)) = .vptr (evc l[y.i]):=by rw [Int.toNat_natCast,ev_get hi]; rfl
  have w1:IntKind.wrap .i64 ((y.i:Int) + 1) = ((y.i + 1:Nat):Int):=by rw [wr_small (by omega) (by omega)]; omega
  have hμ:l.length - (y.i + 1) < l.length - y.i:=by omega
  have hstep:=mrun_step (m:=y.m) (acc:=y.acc) hi
  have hdl:=doR_len y.m l[y.i]
  obtain ⟨e,he⟩:∃ e,e = l[y.i]:=⟨_,rfl⟩
  rw [<-he] at hget hstep hdl
  have hacc:=hI.acc
  have ret:∀ (σ1:State) (err:Int),(y.m.doR e).2.2 = err -> err ≠ 0 -> ∃ (err':Int) (σ1':State),mrun y.m y.acc (l.drop y.i) = ([],false,err') /\ Rf (TV.v .nilslice) /\ Rf (TV.v (.bool false)) /\ (TV.v (.int .i64 err) = TV.v (.int .i64 err')) /\ σ1'.Le σ1:=fun σ1 err h3 h4 =>
   ⟨err,σ1,by rw [hstep,h3,if_pos h4],rfl,rfl,rfl,.refl _⟩
  have nxt:∀ (c1:MH) (σ1:State) (m':RM) (x:List (Nat × T)),y.m.doR e = (m',x,0) -> At c1 σ1 -> MRep c1 y.M m' -> XT c1 -> ItAt c1 y.p (y.acc ++ x) -> ∃ x':Y57,(IM57 l N x' /\ (ls57 l (IM57 l N)).μ x' < (ls57 l (IM57 l N)).μ y) /\ (TV.v (.ptr y.M 0) = TV.v (.ptr x'.M 0)) /\ (TV.v (.ptr y.p 0) = TV.v (.ptr x'.p 0)) /\ Rf (TV.v (.slice 7 (evL l) .any)) /\ Rf (TV.v (.int .i64 ((evL l).length:Int))) /\
    (TV.v (.int .i64 (IntKind.wrap .i64 ((y.i:Int) + 1))) = TV.v (.int .i64 (x'.i:Int))) /\ ((ls57 l (IM57 l N)).S x').Le σ1:=fun c1 σ1 m' x hd a1 a2 a3 a4 => by
   refine ⟨⟨σ1,c1,y.M,m',y.p,y.acc ++ x,y.i + 1⟩,⟨⟨a1,a2,a3,a4,hi,?_,?_⟩,hμ⟩,rfl,rfl,rfl,rfl,by rw [w1],.refl _⟩
   ·rw [hd] at hdl
    show (y.acc ++ x).length <= y.i + 1
    rw [List.length_append]
    dsimp only at hdl
    omega
   ·rw [hI.run,hstep,hd]
    rfl
  have ite0:∀ {c1:MH},Frame' y.c c1 -> ItAt c1 y.p (y.acc ++ []):=fun hf => by rw [List.append_nil]; exact hI.it.frame hf
  refine ⟨⟨by omega,h⟩,e,hget,e,y.p,rfl,fun hf => ret y.σ 1 (by rw [doR_false hf]) (by omega),fun ht hk => ⟨y.c,y.M,y.m,e.i,e.t,rfl,⟨hI.at_,hI.rep,hI.xt⟩,fun c1 σ1 ⟨g1,g2,g3⟩ => bcase_of (fun hne => ret σ1 _ (by rw [doR_1 ht hk]) (by simpa using hne)) (fun heq => ?_)⟩,
   fun ht hk => ⟨y.c,y.M,y.m,e.i,rfl,⟨hI.at_,hI.rep⟩,fun c1 σ1 ⟨g1,g2,g3⟩ => bcase_of (fun hne => ret σ1 _ (by rw [doR_2 ht hk]) (by simpa using hne)) (fun heq => ?_)⟩,
   fun ht hk => ⟨y.c,y.M,y.m,e.i,e.n,rfl,⟨hI.at_,hI.rep⟩,fun c1 σ1 ⟨g1,g2,g3⟩ => bcase_of (fun hne => ret σ1 _ (by rw [doR_3 ht hk]) (by simpa using hne)) (fun heq => ?_)⟩,
   fun ht hk => ⟨y.c,y.M,y.m,y.p,y.acc,rfl,⟨hI.at_,hI.rep,hI.it,by omega,hI.xt⟩,fun c1 σ1 ⟨g1,g2,g3,g4⟩ => nxt c1 σ1 _ _ (doR_4 ht hk) g1 g2 g4 g3⟩⟩
  ·have heq:(y.m.put e.i e.t).2 = 0:=by simpa using heq
   exact nxt c1 σ1 _ [] (by rw [doR_1 ht hk,heq]) g1 g2 (hI.xt.frame g3) (ite0 g3)
  ·have heq:(y.m.close e.i).2 = 0:=by simpa using heq
   exact nxt c1 σ1 _ [] (by rw [doR_2 ht hk,heq]) g1 g2 (hI.xt.frame g3) (ite0 g3)
  ·have heq:(y.m.split e.i e.n).2.2 = 0:=by simpa using heq
   exact nxt c1 σ1 _ [] (by rw [doR_3 ht hk,heq]) g1 g2 (hI.xt.frame g3) (ite0 g3)
 ·have hI:IM57 l N y:=hI
  cases e with
  | exit i =>
   match i,kk with
   | 0,kk => exact ⟨_,_,(atF_ok kk.2).1,(atF_ok kk.2).2,h1 y ⟨hI,by have:=hI.i; have:=kk.1; omega⟩⟩
  | ret =>
   obtain ⟨err,σ1,hr,hat⟩:=kk
   exact ⟨_,_,(atF_ok hat).1,(atF_ok hat).2,h2 err σ1 (by rw [hI.run]; exact hr)⟩
  | normal => exact absurd rfl hne
  | _ => exact kk.elim

omit hG in
theorem mrun_len:∀ (l:List Ev) (m:RM) (acc:List (Nat × T)),(mrun m acc l).1.length <= acc.length + l.length
 | [],m,acc => by show acc.length <= _; simp
 | e :: l,m,acc => by
  show (if (m.doR e).2.2 ≠ 0 then ([],false,(m.doR e).2.2) else mrun (m.doR e).1 (acc ++ (m.doR e).2.1) l).1.length <= _
  split
  ·exact Nat.zero_le _
  ·have:=mrun_len l (m.doR e).1 (acc ++ (m.doR e).2.1)
   have h2:=doR_len m e
   rw [List.length_append] at this
   simp only [List.length_cons]
   omega

theorem c57_ok:ContractOk (EV B w0 G) 57 C57:=by
 rintro args σ Q ⟨n,l,rfl,hb,hQ⟩
 refine pureT hG (N:=2 * SizeOf.sizeOf (mergeS n l).1 + 20) (fun y hy => ?_) (fun y hy => ?_) ?_ hQ
 ·simp only [List.mem_cons,List.not_mem_nil,or_false] at hy
  rcases hy with rfl | rfl
  ·exact .int _ _
  ·exact ev_list_noId l
 ·simp only [List.mem_cons,List.not_mem_nil,or_false] at hy
  rcases hy with rfl | rfl | rfl
  ·exact itemsV_noId _
  ·exact .bool _
  ·exact .int _ _
 have fin0:∀ {σ':State} {b:Bool} {err:Int},mergeS n l = ([],b,err) -> ∃ vs vs',AV.tuple [.nilslice,.bool b,.int .i64 err] = .tuple vs /\ vs.mapM (deep Tryz.prog σ' (2 * SizeOf.sizeOf (mergeS n l).1 + 20)) = some vs' /\ WkL vs' [.slice 5 (itemsV (mergeS n l).1) .any,.bool (mergeS n l).2.1,.int .i64 (mergeS n l).2.2]:=fun {σ' b err} h => by
  rw [h]
  exact ⟨_,[.nilslice,.bool b,.int .i64 err],rfl,rfl,.cons (Wk.nil 5) (.refl _)⟩
 refine bodyX_ok (cuts:=[]) (EV_mixed B w0 G) (H57_ok hG) (fun lp hl _ Q a σ kk => ?_) ((vc57 B w0 G n l (fun y => l.length <= 40000 /\ 0 <= n /\ n <= 64 /\ IM57 l n.toNat y) (fun y => l.length <= 40000 /\ IM57 l n.toNat y /\ y.i = l.length) (fun err => l.length <= 40000 /\ mrun (RM.new n.toNat) [] l = ([],false,err)) _).mpr ?_)
 ·change lp ∈ fnParts Tryz.prog [] 57 at hl
  rw [fnParts_57] at hl
  simp only [List.mem_cons,List.not_mem_nil,or_false] at hl
  subst hl
  obtain ⟨y,⟨hl4,_,_,hI⟩,ha,h1,h2⟩:=kk
  exact loop57 hG hl4 hI Q a σ ha (fun y' hy' => h1 y' ⟨hl4,hy'⟩) (fun err σ1 hr => h2 err σ1 ⟨hl4,hr⟩)
 refine ⟨noneH,n,rfl,noneH_at _,fun hbad => fin0 (by unfold mergeS; rw [if_pos hbad]),fun hok c' σ' M ⟨g1,g2,g3⟩ => bcase_of (fun hbig => ?_) (fun hsm => ?_)⟩
 ·have hbig:=of_decide_eq_true hbig
  rw [evL_len] at hbig
  exact fin0 (by unfold mergeS; rw [if_neg (by omega),if_pos (by omega)])
 have hsm:=of_decide_eq_false hsm
 rw [evL_len] at hsm
 have hms:mergeS n l = mrun (RM.new n.toNat) [] l:=by unfold mergeS; rw [if_neg (by omega),if_neg (by omega)]
 have hx1:XT c':=noneH_xt.frame g3
 obtain ⟨c2,b1,b2,b3⟩:∃ c2:MH,At c2 (σ'.new (.cells [.nilslice] 97 1 false)) /\ c2 (.x 0) = some (σ'.next,.cells [.nilslice] 97 1 false) /\ Same c' c2 [.x 0]:=⟨_,g1.new (.x 0) _,hup_self,Same.hup (by simp)⟩
 refine ⟨⟨_,c2,M,RM.new n.toNat,σ'.next,[],0⟩,⟨by omega,hok.1,hok.2,⟨b1,g2.same b3 (fun q hq => by simp at hq; exact ⟨0,hq⟩),fun i id o e => ?_,⟨.nilslice,false,b2,.nil⟩,Nat.zero_le _,Nat.zero_le _,rfl⟩⟩,⟨rfl,rfl,rfl,rfl,rfl,.refl _⟩,fun y' ⟨_,hI,hyi⟩ => ?_,fun err σ1 ⟨_,hr⟩ => fin0 (by rw [hms,hr])⟩
 ·dsimp only at e
  by_cases e0:i = 0
  ·subst e0; rw [b2] at e; cases e; rfl
  ·rw [b3 (.x i) (by simp; omega)] at e
   exact hx1 i id o e
 ·have hrun:mergeS n l = (y'.acc,y'.m.done,0):=by
   rw [hms,hI.run,hyi,List.drop_length]; rfl
  obtain ⟨iv,g,h1,h2⟩:=hI.it
  have ho:=hI.at_.obj h1
  have fin1:∀ {v:AV},(v = .nilslice /\ y'.acc = [] \/ ∃ id g,v = .rslice id 0 y'.acc.length /\ y'.c (.x 1) = some (id,.cells (flat (itemsV y'.acc)) 88 5 g)) -> ∃ vs vs',AV.tuple [v,.bool y'.m.done,.int .i64 0] = .tuple vs /\ vs.mapM (deep Tryz.prog y'.σ (2 * SizeOf.sizeOf (mergeS n l).1 + 20)) = some vs' /\ WkL vs' [.slice 5 (itemsV (mergeS n l).1) .any,.bool (mergeS n l).2.1,.int .i64 (mergeS n l).2.2]:=fun {v} hv => by
   rw [hrun]
   obtain ⟨v',a1,a2⟩:=items_deep hI.at_ hv (2 * SizeOf.sizeOf y'.acc + 20) (by omega)
   refine ⟨_,[v',.bool y'.m.done,.int .i64 0],rfl,?_,.cons a2 (.refl _)⟩
   simp only [List.mapM_cons,List.mapM_nil,a1]
   rfl
  rcases h2.inv with ⟨rfl,hnil⟩ | ⟨qid,k,qg,rfl,hs,hl⟩
  ·have hz:y'.acc = []:=by
    have:=congrArg List.length hnil
    rw [flat_itemsV_len] at this
    exact List.length_eq_zero_iff.1 (by simp at this; omega)
   exact ⟨⟨[.nilslice],g⟩,ho,by simp,.inl ⟨rfl,y'.c,y'.M,y'.m,rfl,⟨hI.at_,hI.rep⟩,⟨⟨[.nilslice],g⟩,ho,by simp,.inl ⟨rfl,rfl⟩⟩,fin1 (.inl ⟨rfl,hz⟩)⟩⟩
  ·rw [flat_itemsV_len] at hl
   have hk:k = y'.acc.length:=by omega
   subst hk
   exact ⟨⟨[.rslice qid 0 y'.acc.length],g⟩,ho,by simp,.inr ⟨⟨qid,y'.acc.length⟩,rfl,y'.c,y'.M,y'.m,rfl,⟨hI.at_,hI.rep⟩,⟨⟨[.rslice qid 0 y'.acc.length],g⟩,ho,by simp,.inr ⟨⟨qid,y'.acc.length⟩,rfl,rfl⟩⟩,fin1 (.inr ⟨qid,qg,rfl,hs⟩)⟩⟩
end
end Go.V
