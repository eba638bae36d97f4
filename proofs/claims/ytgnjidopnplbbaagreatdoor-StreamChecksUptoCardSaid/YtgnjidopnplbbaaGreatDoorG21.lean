import Derived.Test.YtgnjidopnplbbaaGreatDoorG20
/- Conditions: inputs that become free: the outer loop, the last one. -/
set_option maxRecDepth 1000000
set_option linter.unusedVariables false
namespace Go.V
open Go Go.Proofs

theorem vc87i0 (B:Nat) (w0:World) (G:Nat -> AV) (L:ML) (id:Nat) (I:Z87 -> Prop) (z:Z87):(wpX [] (EV B w0 G) (H87 (EV B w0 G)) (fun _ _ _ _ => False) (A87 87) (N87i false) (bodyOf (subPart [] (fnPart Tryz.prog [] 87 0) 0)) ((ls87i L id .nilslice 0 I).post z) (frm [(0,.v (.ptr L.M 0)),(4,.v (.rslice z.tid 0 z.td.length)),(5,.v z.nv),(6,.v (.ptr id 0)),(49,.v .nilslice),(50,.v (.int .i64 0)),(51,.v (.int .i64 (z.j:Int)))] []) z.σ) =
 ((((Z87.j z:Nat) = 0)/\
 ((Rf (TV.v (AV.ptr (ML.M L) 0)))/\
 ((Rf (TV.v (AV.rslice (Z87.tid z) 0 (List.length (Z87.td z)))))/\
 ((Rf (TV.v (Z87.nv z)))/\
 ((Rf (TV.v (AV.ptr (id) 0)))/\
 ((Rf (TV.v AV.nilslice))/\
 ((Rf (TV.v (AV.int .i64 0)))/\
 ((Rf (TV.v (AV.int .i64 ((Z87.j z:Nat):Int))))/\
 (State.Le (z.1) (z.1))))))))))):=by kernel_rfl
end Go.V
/- Inputs that become free: the inner loop. -/
set_option linter.unusedSimpArgs false
set_option linter.unusedSectionVars false
namespace Go.V
open Go Go.Proofs

def freeOne (p:PM) (i:Nat):PM:=p.setI i { p.at i with fr:=true }
def freeAll (p:PM) (l:List Nat):PM:=l.foldl freeOne p
def idOf (L:ML) (k:Nat):Nat:=L.ids.getD k 0
theorem idOf_eq {L:ML} {k:Nat} (h:k < L.ids.length):idOf L k = L.ids[k]:=by unfold idOf; rw [List.getD,List.getElem?_eq_getElem h]; rfl
theorem freeOne_len (p:PM) (i:Nat):(freeOne p i).I.length = p.I.length:=List.length_set
theorem freeAll_snoc (p:PM) (l:List Nat) (i:Nat):freeAll p (l ++ [i]) = freeOne (freeAll p l) i:=by unfold freeAll; rw [List.foldl_append]; rfl

structure ZI (L:ML) (z:Z87):Prop where
 at_:At z.c z.σ
 rep:Rep z.c L z.p
 todo:∃ cs g,z.c .todo = some (z.tid,.cells cs 155 1 g) /\ cs.take z.td.length = ptrsV (z.td.map (idOf L)) /\ z.td.length <= cs.length
 now:SlAt z.c .now 3 1 z.nv (intsV z.now)
 tds:∀ k ∈ z.td,k < L.ids.length

structure ZIn (L:ML) (z0:Z87) (k:Nat) (bh:List Nat) (z:Z87):Prop where
 zi:ZI L z
 j:z.j <= bh.length
 p:z.p = freeAll z0.p (bh.take z.j)
 td:z.td = z0.td ++ bh.take z.j
 now:z.now = z0.now ++ bh.take z.j
 beh:z.c (.beh k) = z0.c (.beh k)
 xs:Frame' z0.c z.c

theorem ZI.one {L:ML} {z:Z87} (h:ZI L z) {i:Nat} (hi:i < L.ids.length) {bv qv:AV} {qf:Nat}
  (hob:z.c (.inp i) = some (L.ids[i],.cells [.bool (z.p.at i).op,.bool (z.p.at i).fr,bv,qv,.int .i64 (qf:Int)] 159 5 false)) (hb:SlAt z.c (.beh i) 3 1 bv (intsV (z.p.at i).beh)) (hq:QuAt z.c (.itm i) 37 4 qv qf (z.p.at i).q.length (flat (tcellL (z.p.at i).q)))
  {cs:List AV} {σ':State} {tid:Nat} {nv:AV} {c':MH} (hA:At c' σ')
  (h1:c' (.inp i) = some (L.ids[i],.cells [.bool (z.p.at i).op,.bool true,bv,qv,.int .i64 (qf:Int)] 159 5 false)) (h2:c' .todo = some (tid,.cells (cs.take z.td.length ++ [AV.ptr L.ids[i] 0]) 155 1 true))
  (h3:SlAt c' .now 3 1 nv (intsV (z.now ++ [i]))) (h4:∀ q,q ≠ .inp i -> q ≠ .todo -> q ≠ .now -> c' q = z.c q) (hcs:cs.take z.td.length = ptrsV (z.td.map (idOf L))) :
  ZI L ⟨σ',c',freeOne z.p i,z.td ++ [i],z.now ++ [i],tid,nv,z.j + 1⟩ where
 at_:=hA
 rep:=h.rep.upd ((h4 _ (by simp) (by simp) (by simp)).trans h.rep.m) rfl rfl (h4 _ (by simp) (by simp) (by simp)) (h.rep.turn.congr (h4 _ (by simp) (by simp) (by simp))) (freeOne_len _ _) fun j hj => by
  unfold freeOne
  rw [PM.setI_at (by rw [<-h.rep.len]; exact hi)]
  by_cases hji:j = i
  ·subst hji
   rw [if_pos rfl]
   exact ⟨bv,qv,qf,h1,hb.congr (h4 _ (by simp) (by simp) (by simp)),hq.congr (h4 _ (by simp) (by simp) (by simp))⟩
  ·rw [if_neg hji]
   exact (h.rep.inp j hj).congr (h4 _ (by simpa using hji) (by simp) (by simp)) (h4 _ (by simp) (by simp) (by simp)) (h4 _ (by simp) (by simp) (by simp))
 todo:=by
  refine ⟨_,true,h2,?_,?_⟩
  ·have hl:(cs.take z.td.length).length = z.td.length:=by rw [hcs,ptrsV_len,List.length_map]
   rw [List.take_of_length_le (by rw [List.length_append,hl]; simp),hcs,List.map_append,ptrsV_append]
   show _ = ptrsV (z.td.map (idOf L)) ++ [AV.ptr (idOf L i) 0]
   rw [idOf_eq hi]
  ·have hl:(cs.take z.td.length).length = z.td.length:=by rw [hcs,ptrsV_len,List.length_map]
   show (z.td ++ [i]).length <= _
   rw [List.length_append,List.length_append,hl]; exact Nat.le_refl _
 now:=h3
 tds:=fun k hk => by
  rcases List.mem_append.1 hk with hk | hk
  ·exact h.tds k hk
  ·simp at hk; subst hk; exact hi

section
variable {B:Nat} {w0:World} {G:Nat -> AV}
variable (hG:∀ i,NoId (G i))

include hG in
theorem H87_ok:HOk1 (EV B w0 G) (H87 (EV B w0 G)):=hnd_ok (EV_mixed B w0 G) (contracts_cons c88_ok (contracts_cons c89_ok (contracts_cons c125_ok contracts_nil)))

include hG in
theorem loop87i {L:ML} {z1:Z87} {k id:Nat} {bv:AV} {bh:List Nat} (hz:ZI L z1) (hj:z1.j = 0) (hb:SlAt z1.c (.beh k) 3 1 bv (intsV bh)) (hbh:∀ i ∈ bh,i < L.ids.length)
  (hn1:z1.td.length + bh.length <= 1000000) (hn2:z1.now.length + bh.length <= 1000000) (Q:Post) (a:AAct) (σ:State) (ha:atF a (F87i L id bv bh.length z1) [] (z1.σ.Le σ)) (hQ:∀ z',ZIn L z1 k bh z' -> z'.j = bh.length -> Q (.exit 2) (frm (F87i L id bv bh.length z') []) z'.σ) :
  AWp (EV B w0 G) none (fnTmps Tryz.prog 87) (.loop (bodyOf (subPart [] (fnPart Tryz.prog [] 87 0) 0))) Q a σ:=by
 refine awp_loopS (ls87i L id bv bh.length (ZIn L z1 k bh)) (x0:=z1) (fun z hI => ?_) (fun z hI e a σ hne k => ?_) ⟨hz,by omega,by rw [hj]; rfl,by rw [hj]; simp,by rw [hj]; simp,rfl,.refl _⟩ ha
 ·have hI:ZIn L z1 k bh z:=hI
  rcases hb.inv with ⟨rfl,hnil⟩ | ⟨bid,nb,bg,rfl,hbs,hbl⟩
  ·-- there are none
   have hb0:bh = []:=List.map_eq_nil_iff.1 hnil
   subst hb0
   have hj0:z.j = 0:=by have:=hI.j; simpa using this
   refine wpX_ok (H87_ok hG) (EV_mixed B w0 G) (L:=fun _ _ _ _ => False) _ _ _ _ (fun p hp hc Q a σ k => k.elim) (by kernel_rfl) ((vc87i0 B w0 G L id (ZIn L z1 k []) z).mpr ?_)
   first
    | exact ⟨hj0,rfl,rfl,rfl,rfl,rfl,rfl,rfl,.refl _⟩
    | exact bcase_of (fun h => by have h:=of_decide_eq_true h; rw [hj0] at h; omega) (fun h => ⟨hj0,rfl,rfl,rfl,rfl,rfl,rfl,rfl,.refl _⟩)
  rw [intsV_len,Nat.mul_one] at hbl
  subst hbl
  have hbs':z.c (.beh k) = some (bid,.cells (intsV bh) 3 1 bg):=hI.beh.trans hbs
  have hzi:=hI.zi
  have hA:=hzi.at_
  have hR:=hzi.rep
  have hM:=hR.obM hA
  have hbo:=hA.obj hbs'
  obtain ⟨cs,tg,hto,hcs,hcl⟩:=hzi.todo
  have hto':=hA.obj hto
  have hjl:=hI.j
  have hlen:=hR.len
  have htl:z.td.length <= 1000000:=by rw [hI.td,List.length_append,List.length_take]; omega
  have hnl:z.now.length <= 1000000:=by rw [hI.now,List.length_append,List.length_take]; omega
  by_cases hlt:z.j < bh.length
  ·-- the next input
   have hi:bh[z.j] < L.ids.length:=hbh _ (List.getElem_mem hlt)
   obtain ⟨bv',qv,qf,hob,hb',hq'⟩:=(hR.inp _ hi).ex
   have hobj:=hA.obj hob
   have hget1:List.getD (intsV bh) z.j .undef = .int .i64 ((bh[z.j]:Nat):Int):=intsV_get hlt
   have hget2:List.getD (ptrsV L.ids) bh[z.j] .undef = .ptr L.ids[bh[z.j]] 0:=ptrsV_get hi
   rcases hR.ins.inv with ⟨_,hnil⟩ | ⟨iid,im,ig,ei,his,hil⟩
   ·exact absurd (congrArg List.length hnil) (by rw [ptrsV_len]; show ¬ L.ids.length = 0; omega)
   rw [ptrsV_len,Nat.mul_one] at hil
   subst hil
   rw [ei] at hM
   have hio:=hA.obj his
   have wj:IntKind.wrap .i64 ((z.j:Int) + 1) = ((z.j + 1:Nat):Int):=by rw [wr_small (by omega) (by omega)]; omega
   have htid:=hA.lt hto
   have hiid:=hA.lt hob
   have n1:z.tid ≠ L.ids[bh[z.j]]:=hA.ne hto hob (by simp)
   have n2:z.tid ≠ z.σ.next:=by omega
   have hlast:∀ z':Z87,ZI L z' -> z'.p = freeOne z.p bh[z.j] -> z'.td = z.td ++ [bh[z.j]] -> z'.now = z.now ++ [bh[z.j]] -> (∀ q,q ≠ .inp bh[z.j] -> q ≠ .todo -> q ≠ .now -> z'.c q = z.c q) -> z'.j = z.j + 1 -> ZIn L z1 k bh z':=fun z' a1 a2 a3 a4 a5 a7 => by
    have et:bh.take (z.j + 1) = bh.take z.j ++ [bh[z.j]]:=by rw [List.take_add_one,List.getElem?_eq_getElem hlt]; rfl
    exact ⟨a1,by omega,by rw [a7,et,freeAll_snoc,<-hI.p]; exact a2,by rw [a7,et,<-List.append_assoc,<-hI.td]; exact a3,by rw [a7,et,<-List.append_assoc,<-hI.now]; exact a4,(a5 _ (by simp) (by simp) (by simp)).trans hI.beh,hI.xs.trans fun x => a5 _ (by simp) (by simp) (by simp)⟩
   rcases hzi.now.inv with ⟨env,hnn⟩ | ⟨nid,nn,ng,env,hns,hnnl⟩
   ·have hn0:z.now = []:=List.map_eq_nil_iff.1 hnn
    have hfr:(frm ((ls87i L id (.rslice bid 0 bh.length) bh.length (ZIn L z1 k bh)).F z) []) = frm [(0,.v (.ptr L.M 0)),(4,.v (.rslice z.tid 0 z.td.length)),(5,.v .nilslice),(6,.v (.ptr id 0)),(49,.v (.rslice bid 0 bh.length)),(50,.v (.int .i64 (bh.length:Int))),(51,.v (.int .i64 (z.j:Int)))] []:=by
     show frm (F87i L id (.rslice bid 0 bh.length) bh.length z) [] = _
     unfold F87i; rw [env]
    show AWp _ _ _ _ _ (frm ((ls87i L id (.rslice bid 0 bh.length) bh.length (ZIn L z1 k bh)).F z) []) z.σ
    rw [hfr]
    refine wpX_ok (H87_ok hG) (EV_mixed B w0 G) (L:=fun _ _ _ _ => False) _ _ _ _ (fun p hp hc Q a σ k => k.elim) (by kernel_rfl) ((vc87in B w0 G L id bid bh.length (ZIn L z1 k bh) z).mpr ?_)
    simp only [ex_OM,ex_OE,ex_RS,ex_OI,hM,hbo,hto',hobj,hio,hget1,hget2,wj,n1,n2,objs_set,objs_new,next_set,next_new,if_true,if_false,AObj.cells.injEq,List.cons.injEq,AV.int.injEq,AV.ptr.injEq,AV.bool.injEq,AV.rslice.injEq,nat_inj,Nat.zero_add,Nat.mul_one,Int.toNat_natCast,intsV_len,ptrsV_len,eq_self,true_and,and_true,exists_eq_left',exists_eq_left,exists_and_left,exists_and_right,and_assoc,exists_eq',exists_const,List.getD_cons_zero,List.getD_cons_succ,Nat.reduceLT,Nat.reduceLeDiff]
    refine bcase_of (fun _ => ?_) (fun h => absurd hlt (by have:=of_decide_eq_false h; omega))
    have h1:=((hA.set hob (.cells [.bool (z.p.at bh[z.j]).op,.bool true,bv',qv,.int .i64 (qf:Int)] 159 5 false)).new .now (.cells [AV.int .i64 ((bh[z.j]:Nat):Int)] 3 1 true)).grow ((hup_ne (by simp)).trans ((hup_ne (by simp)).trans hto)) (.cells (List.take z.td.length cs ++ [AV.ptr L.ids[bh[z.j]] 0]) 155 1 true)
    have hone:=hzi.one hi hob hb' hq' (tid:=z.σ.next + 1) (nv:=.rslice z.σ.next 0 1) h1 ((hup_ne (by simp)).trans ((hup_ne (by simp)).trans hup_self)) hup_self (by
     rw [hn0]
     exact .row z.σ.next 1 true _ ((hup_ne (by simp)).trans hup_self) rfl) (fun q q1 q2 q3 => (hup_ne q2).trans ((hup_ne q3).trans (hup_ne q1))) hcs
    refine ⟨by omega,by omega,hlt,by omega,by omega,hi,by omega,by omega,hcl,_,hlast _ hone rfl rfl rfl (fun q q1 q2 q3 => (hup_ne q2).trans ((hup_ne q3).trans (hup_ne q1))) rfl,show bh.length - (z.j + 1) < bh.length - z.j by omega,?_,rfl,rfl,.refl _⟩
    show TV.v (AV.rslice (z.σ.next + 1) 0 (z.td.length + 1)) = TV.v (AV.rslice (z.σ.next + 1) 0 (z.td ++ [bh[z.j]]).length)
    rw [List.length_append]; rfl
   ·rw [intsV_len,Nat.mul_one] at hnnl
    subst hnnl
    have hno:=hA.obj hns
    have n3:nid ≠ L.ids[bh[z.j]]:=hA.ne hns hob (by simp)
    have n4:z.tid ≠ nid:=hA.ne hto hns (by simp)
    have htk:List.take z.now.length (intsV z.now) = intsV z.now:=List.take_of_length_le (by rw [intsV_len]; exact Nat.le_refl _)
    have hfr:(frm ((ls87i L id (.rslice bid 0 bh.length) bh.length (ZIn L z1 k bh)).F z) []) = frm [(0,.v (.ptr L.M 0)),(4,.v (.rslice z.tid 0 z.td.length)),(5,.v (.rslice nid 0 z.now.length)),(6,.v (.ptr id 0)),(49,.v (.rslice bid 0 bh.length)),(50,.v (.int .i64 (bh.length:Int))),(51,.v (.int .i64 (z.j:Int)))] []:=by
     show frm (F87i L id (.rslice bid 0 bh.length) bh.length z) [] = _
     unfold F87i; rw [env]
    show AWp _ _ _ _ _ (frm ((ls87i L id (.rslice bid 0 bh.length) bh.length (ZIn L z1 k bh)).F z) []) z.σ
    rw [hfr]
    refine wpX_ok (H87_ok hG) (EV_mixed B w0 G) (L:=fun _ _ _ _ => False) _ _ _ _ (fun p hp hc Q a σ k => k.elim) (by kernel_rfl) ((vc87ir B w0 G L id bid bh.length nid z.now.length (ZIn L z1 k bh) z).mpr ?_)
    simp only [hno,n3,n4,htk,ex_OM,ex_OE,ex_RS,ex_OI,hM,hbo,hto',hobj,hio,hget1,hget2,wj,n1,n2,objs_set,objs_new,next_set,next_new,if_true,if_false,AObj.cells.injEq,List.cons.injEq,AV.int.injEq,AV.ptr.injEq,AV.bool.injEq,AV.rslice.injEq,nat_inj,Nat.zero_add,Nat.mul_one,Int.toNat_natCast,intsV_len,ptrsV_len,eq_self,true_and,and_true,exists_eq_left',exists_eq_left,exists_and_left,exists_and_right,and_assoc,exists_eq',exists_const,List.getD_cons_zero,List.getD_cons_succ,Nat.reduceLT,Nat.reduceLeDiff]
    refine bcase_of (fun _ => ?_) (fun h => absurd hlt (by have:=of_decide_eq_false h; omega))
    have h1:=((hA.set hob (.cells [.bool (z.p.at bh[z.j]).op,.bool true,bv',qv,.int .i64 (qf:Int)] 159 5 false)).grow ((hup_ne (by simp)).trans hns) (.cells (intsV z.now ++ [AV.int .i64 ((bh[z.j]:Nat):Int)]) 3 1 true)).grow ((hup_ne (by simp)).trans ((hup_ne (by simp)).trans hto)) (.cells (List.take z.td.length cs ++ [AV.ptr L.ids[bh[z.j]] 0]) 155 1 true)
    have hone:=hzi.one hi hob hb' hq' (tid:=z.σ.next + 1) (nv:=.rslice z.σ.next 0 (z.now.length + 1)) h1 ((hup_ne (by simp)).trans ((hup_ne (by simp)).trans hup_self)) hup_self (by
     rw [intsV_append]
     exact .row z.σ.next (z.now.length + 1) true _ ((hup_ne (by simp)).trans hup_self) (by rw [List.length_append,intsV_len,intsV_len]; show z.now.length + 1 = (z.now.length + 1) * 1; omega)) (fun q q1 q2 q3 => (hup_ne q2).trans ((hup_ne q3).trans (hup_ne q1))) hcs
    refine ⟨by omega,by omega,hlt,by omega,by omega,hi,by omega,by omega,by omega,by omega,by omega,hcl,_,hlast _ hone rfl rfl rfl (fun q q1 q2 q3 => (hup_ne q2).trans ((hup_ne q3).trans (hup_ne q1))) rfl,show bh.length - (z.j + 1) < bh.length - z.j by omega,?_,rfl,rfl,.refl _⟩
    show TV.v (AV.rslice (z.σ.next + 1) 0 (z.td.length + 1)) = TV.v (AV.rslice (z.σ.next + 1) 0 (z.td ++ [bh[z.j]]).length)
    rw [List.length_append]; rfl
  ·have hje:z.j = bh.length:=by omega
   rcases hzi.now.inv with ⟨env,hnn⟩ | ⟨nid,nn,ng,env,hns,hnnl⟩
   ·have hfr:(frm ((ls87i L id (.rslice bid 0 bh.length) bh.length (ZIn L z1 k bh)).F z) []) = frm [(0,.v (.ptr L.M 0)),(4,.v (.rslice z.tid 0 z.td.length)),(5,.v .nilslice),(6,.v (.ptr id 0)),(49,.v (.rslice bid 0 bh.length)),(50,.v (.int .i64 (bh.length:Int))),(51,.v (.int .i64 (z.j:Int)))] []:=by
     show frm (F87i L id (.rslice bid 0 bh.length) bh.length z) [] = _
     unfold F87i; rw [env]
    show AWp _ _ _ _ _ (frm ((ls87i L id (.rslice bid 0 bh.length) bh.length (ZIn L z1 k bh)).F z) []) z.σ
    rw [hfr]
    exact wpX_ok (H87_ok hG) (EV_mixed B w0 G) (L:=fun _ _ _ _ => False) _ _ _ _ (fun p hp hc Q a σ k => k.elim) (by kernel_rfl) ((vc87in B w0 G L id bid bh.length (ZIn L z1 k bh) z).mpr (bcase_of (fun h => by have h:=of_decide_eq_true h; omega) (fun _ => ⟨hje,rfl,rfl,by rw [env],rfl,rfl,rfl,rfl,.refl _⟩)))
   ·have hfr:(frm ((ls87i L id (.rslice bid 0 bh.length) bh.length (ZIn L z1 k bh)).F z) []) = frm [(0,.v (.ptr L.M 0)),(4,.v (.rslice z.tid 0 z.td.length)),(5,.v (.rslice nid 0 nn)),(6,.v (.ptr id 0)),(49,.v (.rslice bid 0 bh.length)),(50,.v (.int .i64 (bh.length:Int))),(51,.v (.int .i64 (z.j:Int)))] []:=by
     show frm (F87i L id (.rslice bid 0 bh.length) bh.length z) [] = _
     unfold F87i; rw [env]
    show AWp _ _ _ _ _ (frm ((ls87i L id (.rslice bid 0 bh.length) bh.length (ZIn L z1 k bh)).F z) []) z.σ
    rw [hfr]
    exact wpX_ok (H87_ok hG) (EV_mixed B w0 G) (L:=fun _ _ _ _ => False) _ _ _ _ (fun p hp hc Q a σ k => k.elim) (by kernel_rfl) ((vc87ir B w0 G L id bid bh.length nid nn (ZIn L z1 k bh) z).mpr (bcase_of (fun h => by have h:=of_decide_eq_true h; omega) (fun _ => ⟨hje,rfl,rfl,by rw [env],rfl,rfl,rfl,rfl,.refl _⟩)))
 ·cases e with
  | exit id =>
   match id,k with
   | 2,k => exact ⟨_,_,(atF_ok k.2).1,(atF_ok k.2).2,hQ z hI k.1⟩
  | normal => exact absurd rfl hne
  | _ => exact k.elim
end
end Go.V
/- Inputs that become free: the outer loop. -/
namespace Go.V
open Go Go.Proofs

def act (p:PM) (k:Nat):Prop:=(p.at k).fr = true /\ (p.at k).op = false /\ (p.at k).q = []
def fire (p:PM) (k:Nat):PM:=(freeAll p (p.at k).beh).setI k { (freeAll p (p.at k).beh).at k with beh:=[] }
inductive FReach (p0:PM) (td0 now0:List Nat):PM -> List Nat -> List Nat -> Prop where
 | refl:FReach p0 td0 now0 p0 td0 now0
 | skip {p:PM} {td now:List Nat} {k:Nat} (h:FReach p0 td0 now0 p (td ++ [k]) now) (ha:¬ act p k):FReach p0 td0 now0 p td now
 | go {p:PM} {td now:List Nat} {k:Nat} (h:FReach p0 td0 now0 p (td ++ [k]) now) (ha:act p k):FReach p0 td0 now0 (fire p k) (td ++ (p.at k).beh) (now ++ (p.at k).beh)

def PM.T (p:PM):Nat:=(p.I.map fun x => x.beh.length).sum
structure PM.Ok (p:PM):Prop where
 beh:∀ k i,i ∈ (p.at k).beh -> i < p.I.length
 q:∀ k,(p.at k).q.length <= 100000

theorem at_beh_nil {p:PM} {k:Nat} (h:p.I.length <= k):(p.at k).beh = []:=by
 unfold PM.at; rw [List.getD,List.getElem?_eq_none h]; rfl
section
variable {B:Nat} {w0:World} {G:Nat -> AV}
variable (hG:∀ i,NoId (G i))
include hG

end
end Go.V
/- Inputs that become free: the contract. -/
namespace Go.V
open Go Go.Proofs

section
variable {B:Nat} {w0:World} {G:Nat -> AV}
variable (hG:∀ i,NoId (G i))
include hG

omit hG in
theorem FReach.turn {p0 p:PM} {td0 now0 td now:List Nat} (h:FReach p0 td0 now0 p td now):p.turn = p0.turn:=by
 induction h with
 | refl => rfl
 | skip h ha ih => exact ih
 | go h ha ih =>
  refine Eq.trans ?_ ih
  show (freeAll _ _).turn = _
  have:∀ (l:List Nat) (p:PM),(freeAll p l).turn = p.turn:=by
   intro l
   induction l with
   | nil => exact fun p => rfl
   | cons i l ih => exact fun p => (ih (freeOne p i)).trans rfl
  exact this _ _
end
end Go.V
