import Derived.Test.YtgnjidopnplbbaaGreatDoorR35
/- Merge of the reference: its rounds. -/
set_option maxRecDepth 1000000
set_option linter.unusedVariables false
set_option linter.unusedSimpArgs false
set_option linter.unusedSectionVars false
namespace Go.V
open Go Go.Proofs

theorem put_wf {m:RM} (h:m.Wf) (i:Int) (t:T):(m.put i t).1.Wf:=by
 unfold RM.put
 cases ho:m.opened i with
 | none => exact h
 | some k =>
  obtain ⟨rfl,hk,hop⟩:=opened_some ho
  dsimp only
  split
  ·exact h
  ·rename_i hc
   split
   ·exact h
   ·rename_i hp
    exact put1_wf h hk hop (by simpa using hc) (by omega)
theorem close_wf {m:RM} (h:m.Wf) (i:Int):(m.close i).1.Wf:=by
 unfold RM.close
 cases ho:m.opened i with
 | none => exact h
 | some k =>
  obtain ⟨rfl,hk,hop⟩:=opened_some ho
  obtain ⟨w1,_⟩:=shut_wf h hk hop
  obtain ⟨g1,g2,_⟩:=fresh_wf w1 fun j hj => hj.elim
  exact ⟨g1,g2⟩
theorem split_wf {m:RM} (h:m.Wf) (i n:Int):(m.split i n).1.Wf:=by
 unfold RM.split
 cases ho:m.opened i with
 | none => exact h
 | some k =>
  obtain ⟨rfl,hk,hop⟩:=opened_some ho
  dsimp only
  split
  ·exact h
  ·split
   ·exact h
   ·obtain ⟨w1,w2,_⟩:=shut_wf h hk hop
    have hsl:(m.shut k).I.length = m.I.length:=List.length_set
    have hko:((m.shut k).at k).op = false:=by rw [RM.set_at (m:=m.shut k) (I:=m.I) rfl hk,if_pos rfl]
    obtain ⟨v1,_⟩:=split1_wf (n:=n.toNat) w1 (by omega) hko (by omega) w2
    obtain ⟨g1,g2,_⟩:=fresh_wf v1 fun j hj => hj.elim
    exact ⟨g1,g2⟩
theorem next_wf {m:RM} (h:m.Wf):m.next.1.Wf:=by
 unfold RM.next
 cases ht:m.turn with
 | nil => exact h
 | cons k r =>
  dsimp only
  cases hq:(m.at k).q with
  | nil => exact h
  | cons t q =>
   dsimp only
   obtain ⟨hk,hkf,_,_⟩:=(h.w.tm k).1 (by rw [ht]; simp)
   obtain ⟨w1,_⟩:=take1_wf h ht hq
   have hat:(m.take1 k r q).at k = { m.at k with q:=q }:=by rw [RM.set_at (I:=m.I) rfl hk,if_pos rfl]
   have hl:(m.take1 k r q).I.length = m.I.length:=List.length_set
   obtain ⟨g1,g2,g3,g4,_⟩:=fresh_wf w1 fun j hj => by rw [hj,hat]; exact hkf
   exact back_wf g1 (by omega) ((g4 k).2.2.2 (by rw [hat]; exact hkf)) (by rw [(g4 k).1,hat]) g2
theorem doR_wf {m:RM} (h:m.Wf) (e:Ev):(m.doR e).1.Wf:=by
 unfold RM.doR
 split
 ·unfold RM.do
  split
  ·exact put_wf h _ _
  ·split
   ·exact close_wf h _
   ·split
    ·exact split_wf h _ _
    ·exact next_wf h
 ·exact h
def QAt (c:MH) (v:AV) (l:List (Nat × T)):Prop:=(v = .slice 5 [] .full /\ l = []) \/ ∃ (id:Nat) (g:Bool),v = .rslice id 0 l.length /\ c (.x 0) = some (id,.cells (flat (itemsV l)) 88 5 g)
theorem QAt.clean {c:MH} {v:AV} {l:List (Nat × T)} (h:QAt c v l):QAt (cleanH c) v l:=by
 rcases h with h | ⟨id,g,h1,h2⟩
 ·exact .inl h
 ·exact .inr ⟨id,g,h1,clean_cells h2⟩
structure IP58 (acc0 x:List (Nat × T)) (y:Y58):Prop where
 at_:At y.c y.σ
 q:QAt y.c y.qv (acc0 ++ x.take y.j)
 j:y.j <= x.length
structure IO58 (l:List Ev) (n:Nat) (y:Y58):Prop where
 at_:At y.c y.σ
 q:QAt y.c y.qv y.acc
 wf:y.m.Wf
 i:y.i <= l.length
 acc:y.acc.length <= y.i
 run:mrun (RM.new n) [] l = mrun y.m y.acc (l.drop y.i)
theorem parts58:partsIn [] (bodyOf (fnPart Tryz.prog [] 58 0)) = [.loop (bodyOf (subPart [] (fnPart Tryz.prog [] 58 0) 0))]:=by kernel_rfl

section
variable {B:Nat} {w0:World} {G:Nat -> AV}
theorem loop58i {l:List Ev} {acc0 x:List (Nat × T)} {m:RM} {i:Nat} (hx:x.length <= 1) (ha5:acc0.length <= 1000000) {y0:Y58} (h0:IP58 acc0 x y0) (Q:Post) (a:AAct) (σ:State) (ha:atF a ((ls58i l x m i (IP58 acc0 x)).F y0) (FL58 m) (y0.σ.Le σ))
  (hQ:∀ y':Y58,(IP58 acc0 x y' /\ y'.j = x.length) -> Q (.exit 2) (frm [(1,.v (.slice 7 (evL l) .any)),(7,.l 7 0),(9,.v y'.qv),(10,.v (.int .i64 (i:Int)))] (FL58 m)) y'.σ) :
  AWp (EV B w0 G) none (fnTmps Tryz.prog 58) (.loop (bodyOf (subPart [] (fnPart Tryz.prog [] 58 0) 0))) Q a σ:=by
 refine awp_loopS (ls58i l x m i (IP58 acc0 x)) (x0:=y0) (fun y hI => ?_) (fun y hI e a σ hne kk => ?_) h0 ha
 ·have hI:IP58 acc0 x y:=hI
  show AWp _ _ _ _ _ (frm [(1,.v (.slice 7 (evL l) .any)),(7,.l 7 0),(9,.v y.qv),(10,.v (.int .i64 (i:Int))),(12,.v (.slice 5 (itemsV x) .any)),(14,.v (.int .i64 (y.j:Int)))] (FL58 m)) y.σ
  have hj:=hI.j
  have w1:IntKind.wrap .i64 ((y.j:Int) + 1) = ((y.j + 1:Nat):Int):=by rw [wr_small (by omega) (by omega)]; omega
  have hμ:y.j < x.length -> x.length - (y.j + 1) < x.length - y.j:=fun h => by omega
  have hlt:(y.j:Int) < ((itemsV x).length:Int) -> y.j < x.length:=fun h => by rw [itemsV_len] at h; omega
  have htk:∀ h:y.j < x.length,acc0 ++ x.take (y.j + 1) = (acc0 ++ x.take y.j) ++ [x[y.j]]:=fun h => by rw [List.take_add_one,List.getElem?_eq_getElem h,List.append_assoc]; rfl
  rcases hI.q with ⟨e,hnil⟩ | ⟨oid,og,e,hs⟩
  ·rw [e]
   refine wpX_ok H0_ok (EV_mixed B w0 G) (L:=fun _ _ _ _ => False) _ _ _ _ (fun p hp hc Q a σ k => k.elim) (by kernel_rfl) ((vc58in B w0 G l x m i _ y).mpr (bcase_of (fun h => ?_) (fun h => ⟨fun h2 => by have h:=of_decide_eq_false h; rw [itemsV_len] at h; omega,rfl,rfl,by rw [e],rfl,rfl,.refl _⟩)))
   have h:=of_decide_eq_true h
   have hk:=hlt h
   obtain ⟨c2,g1,g2⟩:∃ c2:MH,At c2 (y.σ.new (.cells [.int .i64 ((x[y.j]).1:Int),.int .i64 (x[y.j]).2.k,.int .i64 (x[y.j]).2.n,.str (x[y.j]).2.s,.slice 4 (tcellL (x[y.j]).2.l) .any] 88 5 true)) /\ c2 (.x 0) = some (y.σ.next,.cells [.int .i64 ((x[y.j]).1:Int),.int .i64 (x[y.j]).2.k,.int .i64 (x[y.j]).2.n,.str (x[y.j]).2.s,.slice 4 (tcellL (x[y.j]).2.l) .any] 88 5 true):=⟨_,hI.at_.new (.x 0) _,hup_self⟩
   refine ⟨⟨by omega,h⟩,x[y.j],by rw [Int.toNat_natCast]; exact itemsV_get hk,⟨by decide,by decide⟩,⟨_,c2,.rslice y.σ.next 0 1,y.m,y.acc,y.i,y.j + 1⟩,⟨⟨g1,?_,hk⟩,hμ hk⟩,rfl,rfl,rfl,rfl,rfl,by rw [w1],rfl,.refl _⟩
   dsimp only
   rw [htk hk,hnil]
   refine .inr ⟨_,true,rfl,?_⟩
   rw [g2,itemsV_snoc]; rfl
  ·rw [e]
   have hoo:=hI.at_.obj hs
   have hle:(acc0 ++ x.take y.j).length <= 1000001:=by rw [List.length_append,List.length_take]; omega
   have hto:List.take ((acc0 ++ x.take y.j).length * 5) (flat (itemsV (acc0 ++ x.take y.j))) = flat (itemsV (acc0 ++ x.take y.j)):=List.take_of_length_le (by rw [flat_itemsV_len]; exact Nat.le_refl _)
   refine wpX_ok H0_ok (EV_mixed B w0 G) (L:=fun _ _ _ _ => False) _ _ _ _ (fun p hp hc Q a σ k => k.elim) (by kernel_rfl) ((vc58ir B w0 G l x m i oid (acc0 ++ x.take y.j).length _ y).mpr (bcase_of (fun h => ?_) (fun h => ⟨fun h2 => by have h:=of_decide_eq_false h; rw [itemsV_len] at h; omega,rfl,rfl,by rw [e],rfl,rfl,.refl _⟩)))
   have h:=of_decide_eq_true h
   have hk:=hlt h
   refine ⟨⟨by omega,h⟩,x[y.j],by rw [Int.toNat_natCast]; exact itemsV_get hk,⟨flat (itemsV (acc0 ++ x.take y.j)),og⟩,hoo,⟨rfl,⟨by omega,by omega⟩,by dsimp only; rw [flat_itemsV_len]; exact Nat.le_refl _⟩,?_⟩
   dsimp only
   rw [hto]
   obtain ⟨c2,g1,g2⟩:∃ c2:MH,At c2 ((y.σ.set oid .dead).new (.cells (flat (itemsV (acc0 ++ x.take y.j)) ++ [.int .i64 ((x[y.j]).1:Int),.int .i64 (x[y.j]).2.k,.int .i64 (x[y.j]).2.n,.str (x[y.j]).2.s,.slice 4 (tcellL (x[y.j]).2.l) .any]) 88 5 true)) /\ c2 (.x 0) = some (y.σ.next,.cells (flat (itemsV (acc0 ++ x.take y.j)) ++ [.int .i64 ((x[y.j]).1:Int),.int .i64 (x[y.j]).2.k,.int .i64 (x[y.j]).2.n,.str (x[y.j]).2.s,.slice 4 (tcellL (x[y.j]).2.l) .any]) 88 5 true):=⟨_,hI.at_.grow hs _,hup_self⟩
   refine ⟨⟨_,c2,.rslice y.σ.next 0 ((acc0 ++ x.take y.j).length + 1),y.m,y.acc,y.i,y.j + 1⟩,⟨⟨g1,?_,hk⟩,hμ hk⟩,rfl,rfl,rfl,rfl,rfl,by rw [w1],rfl,.refl _⟩
   dsimp only
   rw [htk hk]
   have hlen1:∀ (A:List (Nat × T)) (z:Nat × T),(A ++ [z]).length = A.length + 1:=fun A z => by simp
   refine .inr ⟨y.σ.next,true,?_,?_⟩
   ·rw [hlen1]
   ·rw [g2,itemsV_snoc]
 ·cases e with
  | exit i =>
   match i,kk with
   | 2,kk =>
    have hI:IP58 acc0 x y:=hI
    exact ⟨_,_,(atF_ok kk.2).1,(atF_ok kk.2).2,hQ y ⟨hI,by have:=hI.j; have:=kk.1; omega⟩⟩
  | normal => exact absurd rfl hne
  | _ => exact kk.elim

theorem H58l_ok (hG:∀ i,NoId (G i)):HOk1 (EV B w0 G) (H58l (EV B w0 G)):=hnd_ok (EV_mixed B w0 G) (contracts_cons (c51_ok hG) contracts_nil)
theorem loop58 (hG:∀ i,NoId (G i)) {l:List Ev} (hb:∀ e ∈ l,e.t.bulk <= 1099511627776) {N:Nat} (hl:l.length <= 40000) {y0:Y58} (h0:IO58 l N y0) (Q:Post) (a:AAct) (σ:State) (ha:atF a ((ls58 l (IO58 l N)).F y0) (FL58 y0.m) (y0.σ.Le σ))
  (h1:∀ y':Y58,(IO58 l N y' /\ y'.i = l.length) -> Q (.exit 0) (frm [(7,.l 7 0),(9,.v y'.qv)] (FL58 y'.m)) y'.σ)
  (h2:∀ (err:Int) (σ1:State),mrun (RM.new N) [] l = ([],false,err) -> Q .ret (frm [(4,.v .nilslice),(5,.v (.bool false)),(6,.v (.int .i64 err))] []) σ1) :
  AWp (EV B w0 G) none (fnTmps Tryz.prog 58) (.loop (bodyOf (fnPart Tryz.prog [] 58 0))) Q a σ:=by
 refine awp_loopS (ls58 l (IO58 l N)) (x0:=y0) (fun y hI => ?_) (fun y hI e a σ hne kk => ?_) h0 ha
 ·have hI:IO58 l N y:=hI
  show AWp _ _ _ _ _ (frm [(1,.v (.slice 7 (evL l) .any)),(7,.l 7 0),(9,.v y.qv),(10,.v (.int .i64 (y.i:Int)))] (FL58 y.m)) y.σ
  have hacc:=hI.acc
  have hil:=hI.i
  refine wpX_ok (H58l_ok hG) (EV_mixed B w0 G) (L:=T58i l (fun g y5 => IP58 y.acc g.x y5 /\ g.x.length <= 1) (fun g y' => IP58 y.acc g.x y' /\ y'.j = g.x.length)) _ _ _ _ (fun p hp hc Q a σ k => ?_) (by kernel_rfl) ((vc58l B w0 G l (fun g y5 => IP58 y.acc g.x y5 /\ g.x.length <= 1) (fun g y' => IP58 y.acc g.x y' /\ y'.j = g.x.length) (IO58 l N) y).mpr (bcase_of (fun h => ?_) (fun h => ⟨fun h2 => by have h:=of_decide_eq_false h; rw [evL_len] at h; omega,rfl,rfl,rfl,.refl _⟩)))
  ·rw [parts58] at hp
   simp only [List.mem_cons,List.not_mem_nil,or_false] at hp
   subst hp
   obtain ⟨g,y5,⟨hP,hx1⟩,ha,hq⟩:=k
   exact loop58i hx1 (by omega) hP Q a σ ha (fun y' hy' => hq y' hy')
  have h:=of_decide_eq_true h
  have hi:y.i < l.length:=by rw [evL_len] at h; omega
  have hget:AV.vptr (AV.cells (List.getD (evL l) (Int.toNat (y.i:Int)) .undef)) = .vptr (evc l[y.i]):=by rw [Int.toNat_natCast,ev_get hi]; rfl
  have w1:IntKind.wrap .i64 ((y.i:Int) + 1) = ((y.i + 1:Nat):Int):=by rw [wr_small (by omega) (by omega)]; omega
  have hμ:l.length - (y.i + 1) < l.length - y.i:=by omega
  have hstep:=mrun_step (m:=y.m) (acc:=y.acc) hi
  have hdl:=doR_len y.m l[y.i]
  have hbe:=hb _ (List.getElem_mem hi)
  obtain ⟨e,he⟩:∃ e,e = l[y.i]:=⟨_,rfl⟩
  rw [<-he] at hget hstep hdl hbe
  have hrng:(0:Int) <= (y.i:Int) /\ (y.i:Int) < ((evL l).length:Int):=⟨by omega,h⟩
  refine ⟨hrng,e,hget,⟨y.m,e,_,rfl,⟨.inl rfl,hI.wf,hbe⟩,rfl,rfl,rfl,rfl,rfl,rfl,?_⟩,rfl,rfl,rfl,⟨hrng,e,hget,rfl⟩,rfl,y.m,e,_,rfl,⟨.inl rfl,hI.wf,hbe⟩,rfl,rfl,?_⟩
  all_goals
   refine bcase_of (fun hne => ⟨_,y.σ.untok,by rw [hstep,if_pos (by simpa using hne)],rfl,rfl,rfl,.refl _⟩) (fun heq => ?_)
   have heq:(y.m.doR e).2.2 = 0:=by simpa using heq
   refine ⟨⟨(y.m.doR e).2.1,(y.m.doR e).1,y.i⟩,⟨y.σ.untok,cleanH y.c,y.qv,y.m,y.acc,y.i,0⟩,⟨⟨hI.at_.clean,?_,Nat.zero_le _⟩,hdl⟩,⟨rfl,rfl,rfl,rfl,rfl,rfl,rfl,.refl _⟩,fun y' ⟨hP,hj⟩ => ?_⟩
   ·rw [List.take_zero,List.append_nil]; exact hI.q.clean
   ·have hq:=hP.q
    rw [hj,List.take_length] at hq
    refine ⟨⟨y'.σ,y'.c,y'.qv,(y.m.doR e).1,y.acc ++ (y.m.doR e).2.1,y.i + 1,0⟩,⟨⟨hP.at_,hq,doR_wf hI.wf e,hi,?_,?_⟩,hμ⟩,rfl,rfl,rfl,by rw [w1],rfl,.refl _⟩
    ·show (y.acc ++ (y.m.doR e).2.1).length <= y.i + 1
     rw [List.length_append]; omega
    ·rw [hI.run,hstep,if_neg (by simp [heq])]
 ·have hI:IO58 l N y:=hI
  cases e with
  | exit i =>
   match i,kk with
   | 0,kk => exact ⟨_,_,(atF_ok kk.2).1,(atF_ok kk.2).2,h1 y ⟨hI,by have:=hI.i; have:=kk.1; omega⟩⟩
  | ret =>
   obtain ⟨err,σ1,hr,hat⟩:=kk
   exact ⟨_,_,(atF_ok hat).1,(atF_ok hat).2,h2 err σ1 (by rw [hI.run]; exact hr)⟩
  | normal => exact absurd rfl hne
  | _ => exact kk.elim
end
end Go.V
/- Merge of the reference; the law StreamMerges. -/
namespace Go.V
open Go Go.Proofs

theorem doR_small {m:RM} (h:m.Wf) (e:Ev):∀ x ∈ (m.doR e).2.1,x.2.small:=by
 unfold RM.doR
 split
 ·exact (do_items h e).2
 ·intro x hx; cases hx
theorem mrun_small:∀ (l:List Ev) (m:RM) (acc:List (Nat × T)),m.Wf -> (∀ x ∈ acc,x.2.small) -> ∀ x ∈ (mrun m acc l).1,x.2.small
 | [],m,acc,_,ha => ha
 | e :: l,m,acc,hW,ha => by
  show ∀ x ∈ (if (m.doR e).2.2 ≠ 0 then ([],false,(m.doR e).2.2) else mrun (m.doR e).1 (acc ++ (m.doR e).2.1) l).1,_
  split
  ·intro x hx; cases hx
  ·exact mrun_small l _ _ (doR_wf hW e) fun x hx => by
    rcases List.mem_append.1 hx with hx | hx
    ·exact ha x hx
    ·exact doR_small hW e x hx
theorem mergeS_items (n:Int) (l:List Ev):(mergeS n l).1.length <= 1000000 /\ ∀ x ∈ (mergeS n l).1,x.2.small:=by
 unfold mergeS
 split
 ·exact ⟨Nat.zero_le _,fun x hx => by cases hx⟩
 ·split
  ·exact ⟨Nat.zero_le _,fun x hx => by cases hx⟩
  ·have:=mrun_len l (RM.new n.toNat) []
   simp only [List.length_nil] at this
   exact ⟨by omega,mrun_small l _ [] (new_wf (by omega)) fun x hx => by cases hx⟩
theorem QAt.deep {c:MH} {σ:State} {v:AV} {l:List (Nat × T)} (hA:At c σ) (h:QAt c v l) (n:Nat) (hn:2 * SizeOf.sizeOf l + 8 < n):∃ v',deep Tryz.prog σ n v = some v' /\ Wk v' (.slice 5 (itemsV l) .any):=by
 rcases h with ⟨rfl,rfl⟩ | ⟨id,g,rfl,h⟩
 ·obtain ⟨n,rfl⟩:∃ k,n = k + 1:=⟨n - 1,by omega⟩
  exact ⟨.slice 5 [] .full,rfl,Wk.slice 5 _ _⟩
 ·exact items_deep hA (.inr ⟨id,g,rfl,h⟩) n hn

section
variable {B:Nat} {w0:World} {G:Nat -> AV}
theorem c58_ok (hG:∀ i,NoId (G i)):ContractOk (EV B w0 G) 58 C58:=by
 rintro args σ Q ⟨n,l,rfl,hb,hQ⟩
 have hH:HOk1 (EV B w0 G) (H58 (EV B w0 G)):=hnd_ok (EV_mixed B w0 G) (contracts_cons (c49_ok hG) (contracts_cons (c100_ok hG) contracts_nil))
 refine pureT hG (N:=2 * SizeOf.sizeOf (mergeS n l).1 + 20) (fun y hy => ?_) (fun y hy => ?_) ?_ hQ
 ·simp only [List.mem_cons,List.not_mem_nil,or_false] at hy
  rcases hy with rfl | rfl
  ·exact .int _ _
  ·exact ev_list_noId l
 ·simp only [List.mem_cons,List.not_mem_nil,or_false] at hy
  rcases hy with rfl | rfl | rfl
  ·exact itemsV_noId _
  ·exact .bool _
  ·exact .int _ _
 have fin0:∀ {σ':State} {b:Bool} {err:Int},mergeS n l = ([],b,err) -> ∃ vs vs',AV.tuple [.nilslice,.bool b,.int .i64 err] = .tuple vs /\ vs.mapM (deep Tryz.prog σ' (2 * SizeOf.sizeOf (mergeS n l).1 + 20)) = some vs' /\ WkL vs' [.slice 5 (itemsV (mergeS n l).1) .any,.bool (mergeS n l).2.1,.int .i64 (mergeS n l).2.2]:=fun {σ' b err} h => by
  rw [h]
  exact ⟨_,[.nilslice,.bool b,.int .i64 err],rfl,rfl,.cons (Wk.nil 5) (.refl _)⟩
 refine bodyX_ok (cuts:=[]) (EV_mixed B w0 G) hH (fun lp hl _ Q a σ kk => ?_) ((vc58 B w0 G n l (fun y => l.length <= 40000 /\ IO58 l n.toNat y) (fun y => l.length <= 40000 /\ IO58 l n.toNat y /\ y.i = l.length) (fun err => l.length <= 40000 /\ mrun (RM.new n.toNat) [] l = ([],false,err)) _).mpr ?_)
 ·change lp ∈ fnParts Tryz.prog [] 58 at hl
  rw [fnParts_58] at hl
  simp only [List.mem_cons,List.not_mem_nil,or_false] at hl
  subst hl
  obtain ⟨y,⟨hl4,hI⟩,ha,h1,h2⟩:=kk
  exact loop58 hG hb hl4 hI Q a σ ha (fun y' hy' => h1 y' ⟨hl4,hy'⟩) (fun err σ1 hr => h2 err σ1 ⟨hl4,hr⟩)
 refine ⟨n,rfl,fun hok => bcase_of (fun hbig => ?_) (fun hsm => ?_),fun hbad => fin0 (by
  have hbad:¬ (0 <= n /\ n <= 64):=hbad
  unfold mergeS; rw [if_pos (by omega)])⟩
 ·have hbig:=of_decide_eq_true hbig
  rw [evL_len] at hbig
  exact fin0 (by unfold mergeS; rw [if_neg (by omega),if_pos (by omega)])
 have hsm:=of_decide_eq_false hsm
 rw [evL_len] at hsm
 have hms:mergeS n l = mrun (RM.new n.toNat) [] l:=by unfold mergeS; rw [if_neg (by omega),if_neg (by omega)]
 refine ⟨⟨_,noneH,.slice 5 [] .full,RM.new n.toNat,[],0,0⟩,⟨by omega,noneH_at _,.inl ⟨rfl,rfl⟩,new_wf (by omega),Nat.zero_le _,Nat.zero_le _,rfl⟩,⟨rfl,rfl,rfl,rfl,rfl,.refl _⟩,fun y' ⟨_,hI,hyi⟩ => ?_,fun err σ1 ⟨_,hr⟩ => fin0 (by rw [hms,hr])⟩
 have hrun:mergeS n l = (y'.acc,y'.m.done,0):=by
  rw [hms,hI.run,hyi,List.drop_length]; rfl
 have hlen:=hI.wf.w.len
 refine ⟨y'.m,rfl,by omega,?_⟩
 rw [hrun]
 obtain ⟨v',a1,a2⟩:=hI.q.clean.deep hI.at_.clean (2 * SizeOf.sizeOf y'.acc + 20) (by omega)
 refine ⟨_,[v',.bool y'.m.done,.int .i64 0],rfl,?_,.cons a2 (.refl _)⟩
 simp only [List.mapM_cons,List.mapM_nil,a1]
 rfl

theorem H15_ok:HOk1 (EV B w0 G1) (H15 (EV B w0 G1)):=hnd_ok (EV_mixed B w0 G1) (contracts_cons c16_ok (contracts_cons (c57_ok G1_noId) (contracts_cons (c58_ok G1_noId) (contracts_cons (c52_ok G1_noId) contracts_nil))))
theorem merges_ok (N:Int) (l:List Ev) (hb:∀ e ∈ l,e.t.bulk <= 1099511627776):ACalls (EV B w0 G1) 15 [.agg [.int .i64 N,.slice 7 (evL l) .any]] noObj (fun v _ => v = .bool true):=by
 have hi:=mergeS_items N l
 refine bodyC_ok (EV_mixed B w0 G1) H15_ok (fun l hl _ Q a σ k => k.elim) ((vc15 B w0 G1 N l _).mpr ⟨rfl,bcase_of (fun _ => bcase_of (fun _ => rfl) (fun _ => ?_)) (fun _ => ?_)⟩)
 all_goals exact ⟨N,l,rfl,hb,N,l,rfl,hb,(mergeS N l).1,rfl,hi,bcase_of (fun _ => by rw [beq_self_eq_true]) (fun h => by simp at h)⟩
end
end Go.V
