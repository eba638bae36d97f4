import Derived.Test.YtgnjidopnplbbaaGreatDoorG46
/- The reference's Check: its table, and the order that is read off. -/
set_option maxRecDepth 1000000
set_option linter.unusedVariables false
set_option linter.unusedSimpArgs false
set_option linter.unusedSectionVars false
namespace Go.V
open Go Go.Proofs

def I19t (ls:List (List T)) (out:List T) (y:Y19):Prop:=y.k <= prodL ls /\ ∃ tab,St19 ls tab y.σ /\ TabOk ls out y.k tab
def R19t (ls:List (List T)) (out:List T) (σ:State):Prop:=∃ tab,St19 ls tab σ /\ TabOk ls out 0 tab
def OrdB (σ:State) (v:AV) (o:List Nat):Prop:=(v = .slice 1 [] .full /\ o = []) \/ ∃ id g,v = .rslice id 0 o.length /\ 2 <= id /\ σ.objs id = .cells (intsV o) 3 1 g
def zeros (ls:List (List T)):List Nat:=List.replicate ls.length 0
structure I37 (ls:List (List T)) (out:List T) (y:Y37):Prop where
 tb:R19t ls out y.σ
 bn:Bnd ls y.q
 len:y.o.length = y.q.sum
 ord:OrdB y.σ y.v y.o
 mg:mgF ls out out.length (zeros ls) = (mgF ls out (out.length - y.q.sum) y.q).map (y.o ++ ·)
def R37 (ls:List (List T)) (out:List T) (y:Y37):Prop:=mgF ls out out.length (zeros ls) = some y.o /\ OrdB y.σ y.v y.o

section
variable {B:Nat} {w0:World} {G:Nat -> AV} {S:Nat} {ls:List (List T)} {out:List T}
variable (hG:∀ i,NoId (G i))
include hG

theorem c19t (hlen:ls.length <= 1000) (hsum:sumL ls <= 1000000) (hp:prodL ls <= 20000) (hso:sumL ls = out.length) (hsm:∀ l ∈ ls,∀ x ∈ l,x.small /\ SizeOf.sizeOf x < S) {Q:Post} {a:AAct} {σ:State}
  (h:T19t ls out (I19t ls out) (R19t ls out) (.loop (bodyOf (part19t Tryz.prog))) Q a σ) :
  AWp (EV B w0 G) none (fnTmps Tryz.prog 19) (.loop (bodyOf (part19t Tryz.prog))) Q a σ:=by
 obtain ⟨y0,hI0,hat,hR⟩:=h
 refine awp_loopS (ls19t ls out (I19t ls out)) (x0:=y0) (fun y hI => ?_) (fun y hI e a' σ' hne kk => ?_) hI0 hat
 ·obtain ⟨σy,ky⟩:=y
  obtain ⟨hk,tab,hst,htab⟩:=hI
  change ky <= prodL ls at hk
  change St19 ls tab σy at hst
  change TabOk ls out ky tab at htab
  refine wpX_ok (cuts:=cuts19) (H19_ok (S:=S) hG) (EV_mixed B w0 G) _ _ _ _ (fun lp hl hc Q a σ k => ?_) (by kernel_rfl) ((vc19t B w0 G S ls out (P19d ls) (P19q ls out) (R19q ls out) (I19t ls out) ⟨σy,ky⟩).mpr ?_)
  ·change lp ∈ partsIn cuts19 (bodyOf (part19t Tryz.prog)) at hl
   rw [partsIn_19t] at hl
   simp only [List.mem_cons,List.not_mem_nil,or_false] at hl
   rcases hl with rfl | rfl
   ·refine handL_ok (P:=fun c Q a σ => AWp (EV B w0 G) none (fnTmps Tryz.prog 19) c Q a σ) k (fun _ k => c19d hG hlen hsum hp k) (fun k => ?_)
    exact handL_ok (P:=fun c Q a σ => AWp (EV B w0 G) none (fnTmps Tryz.prog 19) c Q a σ) k (fun h k => by rw [headId_19t.1] at h; cases h) (fun k => k.elim)
   ·refine handL_ok (P:=fun c Q a σ => AWp (EV B w0 G) none (fnTmps Tryz.prog 19) c Q a σ) k (fun h k => by rw [headId_19t.2.1] at h; cases h) (fun k => ?_)
    exact handL_ok (P:=fun c Q a σ => AWp (EV B w0 G) none (fnTmps Tryz.prog 19) c Q a σ) k (fun h k => c19q hG hlen hsum hp hso hsm k) (fun k => k.elim)
  ·refine bcase_of (fun h => ?_) (fun h => ⟨?_,rfl,rfl,rfl,rfl,rfl,.refl _⟩)
   ·have h:(ky:Int) - 1 ≥ 0:=of_decide_eq_true h
    obtain ⟨s,rfl⟩:∃ s,ky = s + 1:=⟨ky - 1,by omega⟩
    obtain ⟨p,hb,hcp⟩:=codeR_all ls s (by omega)
    have e1:Int.toNat (((s + 1:Nat):Int) - 1) = s:=by omega
    obtain ⟨⟨gs,ho0⟩,⟨gt,ho1⟩,hnx⟩:=id hst
    have setc:asplice (intsZ tab) ((0 + s) * 1) [AV.int .i64 (-1)] = intsZ (tab.set s (-1)):=by
     rw [show (0 + s) * 1 = s by omega,asp1 (by rw [intsZ_len,htab.1]; omega),intsZ_set]
    have hst':=hst.set (tab.set s (-1)) gt
    have hle:State.Le (σy.set 1 (.cells (intsZ (tab.set s (-1))) 3 1 gt)) (σy.set 1 (.cells (asplice (intsZ tab) ((0 + s) * 1) [AV.int .i64 (-1)]) 3 1 gt)):=by rw [setc]; exact .refl _
    rw [e1]
    refine ⟨⟨_,gt⟩,ho1,⟨h,by show ((s + 1:Nat):Int) - 1 < _; omega⟩,⟨intsZ tab,gt⟩,ho1,?_,p,_,⟨hb,hst'.st⟩,⟨rfl,rfl,?_,rfl,rfl,rfl,rfl,rfl,hle⟩,p,_,⟨hb,Nat.le_refl _,_,hst',?_⟩,⟨?_,rfl,rfl,rfl,rfl,rfl,rfl,rfl,.refl _⟩,fun σ' hRq => ?_⟩
    ·show (0 + s) * 1 + 1 <= (intsZ tab).length
     rw [intsZ_len,htab.1]; omega
    ·show TV.v (AV.int .i64 (((s + 1:Nat):Int) - 1)) = TV.v (AV.int .i64 (codeR ls p:Int))
     rw [hcp,show (((s + 1:Nat):Int) - 1) = (s:Int) by omega]
    ·refine ⟨?_,?_⟩
     ·rw [hcp]; exact htab.set _
     ·show List.getD _ (codeR ls p) 0 = entry ls out p ls.length
      rw [hcp,getD_set_eq _ (by rw [htab.1]; omega),entry_last]
    ·show TV.v (AV.int .i64 (IntKind.wrap .i64 (((lsV ls).length:Int) - 1))) = TV.v (AV.int .i64 ((ls.length:Int) - 1))
     rw [lsV_len,wr_small (by omega) (by omega)]
    ·obtain ⟨_,tab',h1,h2⟩:=hRq
     refine ⟨⟨σ',s⟩,⟨⟨by show s <= _; omega,tab',h1,by rw [hcp] at h2; exact h2⟩,Nat.lt_succ_self s⟩,?_,rfl,rfl,rfl,rfl,rfl,.refl _⟩
     show TV.v (AV.int .i64 (IntKind.wrap .i64 ((codeR ls p:Int) - 1))) = TV.v (AV.int .i64 ((s:Int) - 1))
     rw [hcp,wr_small (by omega) (by omega)]
   ·have h:¬ (ky:Int) - 1 ≥ 0:=of_decide_eq_false h
    show ky = 0
    omega
 ·obtain ⟨hk,tab,hst,htab⟩:=hI
  cases e with
  | exit j =>
   match j,kk with
   | 2,kk =>
    rw [kk.1] at htab
    exact ⟨_,_,(atF_ok kk.2).1,(atF_ok kk.2).2,hR _ ⟨tab,hst,htab⟩⟩
  | normal => exact absurd rfl hne
  | _ => exact kk.elim

theorem c19l (hlen:ls.length <= 1000) (hsum:sumL ls <= 1000000) (hp:prodL ls <= 20000) (hso:sumL ls = out.length) {Q:Post} {a:AAct} {σ:State}
  (h:T19l ls out (I37 ls out) (R37 ls out) (mgF ls out out.length (zeros ls) = none) (.loop (bodyOf (part19l Tryz.prog))) Q a σ) :
  AWp (EV B w0 G) none (fnTmps Tryz.prog 19) (.loop (bodyOf (part19l Tryz.prog))) Q a σ:=by
 obtain ⟨y0,hI0,hat,hR1,hR2⟩:=h
 refine awp_loopS (ls19l ls out (I37 ls out)) (x0:=y0) (fun y hI => ?_) (fun y hI e a' σ' hne kk => ?_) hI0 hat
 ·obtain ⟨σy,v,o,q⟩:=y
  obtain ⟨⟨tab,hst,htab⟩,hb,hol,hord,hmg⟩:=hI
  change St19 ls tab σy at hst
  change Bnd ls q at hb
  change o.length = q.sum at hol
  change OrdB σy v o at hord
  change mgF ls out out.length (zeros ls) = (mgF ls out (out.length - q.sum) q).map (o ++ ·) at hmg
  obtain ⟨⟨gs,ho0⟩,⟨gt,ho1⟩,hnx⟩:=id hst
  have hcl:=codeR_lt hb
  have hqs:=hb.sum
  have hv:=htab.2 q hb (Nat.zero_le _)
  have pre:(0:Int) <= (codeR ls q:Int) /\ (codeR ls q:Int) < (prodL ls:Int):=⟨by omega,by omega⟩
  have fits:(0 + Int.toNat (codeR ls q:Int)) * 1 < (intsZ tab).length:=by rw [idx1,intsZ_len,htab.1]; exact hcl
  have val:(intsZ tab).getD ((0 + Int.toNat (codeR ls q:Int)) * 1) .undef = .int .i64 (nextV ls out q):=by rw [idx1,intsZ_getD (by rw [htab.1]; exact hcl),hv]
  -- what a round leaves
  have next:∀ (i:Nat) (σ':State) (id:Nat) (g:Bool),q.sum < out.length -> i < ls.length -> goesOn ls out q (out.length - q.sum - 1) i = true ->
    mgF ls out (out.length - q.sum) q = (mgF ls out (out.length - q.sum - 1) (q.set i (q.getD i 0 + 1))).map (i :: ·) -> St19 ls tab σ' -> 2 <= id -> σ'.objs id = .cells (intsV (o ++ [i])) 3 1 g ->
    I37 ls out ⟨σ',.rslice id 0 (o.length + 1),o ++ [i],q.set i (q.getD i 0 + 1)⟩:=by
   intro i σ' id g h1 h2 h3 h4 h5 h6 h7
   have hlt:=goesOn_lt (List.getElem?_eq_getElem h2) h3
   have hs:=sum_set (p:=q) (i:=i) (by rw [hb.len]; exact h2)
   refine ⟨⟨tab,h5,htab⟩,hb.set (List.getElem?_eq_getElem h2) (by omega),?_,.inr ⟨id,g,by rw [List.length_append]; rfl,h6,h7⟩,?_⟩
   ·show (o ++ [i]).length = (q.set i (q.getD i 0 + 1)).sum
    rw [hs,List.length_append,hol]; rfl
   ·show _ = (mgF ls out (out.length - (q.set i (q.getD i 0 + 1)).sum) _).map ((o ++ [i]) ++ ·)
    rw [hmg,h4,hs,show out.length - (q.sum + 1) = out.length - q.sum - 1 by omega,Option.map_map]
    congr 1
    funext l
    simp
  have step:∀ i:Nat,i < ls.length -> IntKind.wrap .i64 ((codeR ls q:Int) + (prodL (ls.drop (i + 1)):Int)) = (codeR ls (q.set i (q.getD i 0 + 1)):Int):=by
   intro i hi
   have h2:=prodL_drop_le ls (i + 1)
   rw [codeR_set hb hi,wr_small (by omega) (by omega)]; omega
  rcases hord with ⟨rfl,rfl⟩ | ⟨id,g,rfl,hid,hoid⟩
  ·refine wpX_ok (cuts:=cuts19) (L:=fun _ _ _ _ => False) (H19_ok (S:=0) hG) (EV_mixed B w0 G) _ _ _ _ (fun _ _ _ Q a σ k => k.elim) (by kernel_rfl) ((vc19l1 B w0 G 0 ls out (I37 ls out) q σy).mpr ?_)
   refine bcase_of (fun h => ?_) (fun h => ⟨fun h2 => ?_,rfl,.refl _⟩)
   ·have h:=of_decide_eq_true h
    have hq0:q.sum = 0:=by rw [<-hol]; rfl
    refine ⟨⟨_,gt⟩,ho1,pre,⟨intsZ tab,gt⟩,ho1,fits,_,val,bcase_of (fun h5 => ?_) (fun h5 => ?_)⟩
    ·have h5:=of_decide_eq_true h5
     exact ⟨⟨by show 0 < sumL ls; omega,h5⟩,rfl,rfl,rfl,trivial⟩
    ·have h5:=of_decide_eq_false h5
     rcases nextV_split (ls:=ls) (out:=out) (q:=q) (by omega) with ⟨h6,_⟩ | ⟨i,h6,h7,h8,h9⟩
     ·exact absurd h6 h5
     have hn0:(σy.new (.cells [.int .i64 (nextV ls out q)] 3 1 true)).objs 0 = σy.objs 0:=new_objs_ne _ _ (by omega)
     have hn1:(σy.new (.cells [.int .i64 (nextV ls out q)] 3 1 true)).objs 1 = σy.objs 1:=new_objs_ne _ _ (by omega)
     have hi0:Int.toNat (nextV ls out q) = i:=by omega
     refine ⟨⟨_,gt⟩,ho1,pre,⟨intsZ tab,gt⟩,ho1,fits,_,val,⟨by omega,by omega⟩,⟨_,gt⟩,by rw [hn1]; exact ho1,pre,⟨intsZ tab,gt⟩,by rw [hn1]; exact ho1,fits,_,val,⟨_,gs⟩,by rw [hn0]; exact ho0,⟨by omega,by omega⟩,⟨intsV (stepsN ls 0),gs⟩,by rw [hn0]; exact ho0,?_,prodL (ls.drop (i + 1)),?_,
      ⟨_,.rslice σy.next 0 1,[] ++ [i],q.set i (q.getD i 0 + 1)⟩,⟨next i _ σy.next true (by omega) h7 h8 h9 ⟨⟨gs,hn0.trans ho0⟩,⟨gt,hn1.trans ho1⟩,by show 2 <= σy.next + 1; omega⟩ hnx ?_,?_⟩,rfl,?_,rfl,rfl,rfl,rfl,rfl,.refl _⟩
     ·show (0 + Int.toNat (nextV ls out q)) * 1 < (intsV (stepsN ls 0)).length
      rw [hi0,intsV_len,stepsN_len]; omega
     ·show (intsV (stepsN ls 0)).getD ((0 + Int.toNat (nextV ls out q)) * 1) .undef = _
      rw [hi0,show (0 + i) * 1 = i by omega]; exact steps_getD h7
     ·rw [h6]; exact State.new_objs _ _
     ·show sumL ls - 1 < sumL ls - 0
      omega
     ·rw [step i h7]
   ·have h:=of_decide_eq_false h
    exact absurd (show (0:Int) < (sumL ls:Int) by omega) h
  ·refine wpX_ok (cuts:=cuts19) (L:=fun _ _ _ _ => False) (H19_ok (S:=0) hG) (EV_mixed B w0 G) _ _ _ _ (fun _ _ _ Q a σ k => k.elim) (by kernel_rfl) ((vc19l2 B w0 G 0 ls out (I37 ls out) o q id o.length σy).mpr ?_)
   refine bcase_of (fun h => ?_) (fun h => ⟨fun h2 => ?_,rfl,.refl _⟩)
   ·have h:=of_decide_eq_true h
    refine ⟨⟨_,gt⟩,ho1,pre,⟨intsZ tab,gt⟩,ho1,fits,_,val,bcase_of (fun h5 => ?_) (fun h5 => ?_)⟩
    ·have h5:=of_decide_eq_true h5
     exact ⟨⟨by show o.length < sumL ls; omega,h5⟩,rfl,rfl,rfl,trivial⟩
    ·have h5:=of_decide_eq_false h5
     rcases nextV_split (ls:=ls) (out:=out) (q:=q) (by omega) with ⟨h6,_⟩ | ⟨i,h6,h7,h8,h9⟩
     ·exact absurd h6 h5
     have ecs:List.take (o.length * 1) (intsV o) ++ [AV.int .i64 (nextV ls out q)] = intsV (o ++ [i]):=by
      rw [Nat.mul_one,<-intsV_len o,List.take_length,intsV_append,h6]; rfl
     have hn0:((σy.set id .dead).new (.cells (intsV (o ++ [i])) 3 1 true)).objs 0 = σy.objs 0:=by rw [new_objs_ne _ _ (by show 0 ≠ σy.next; omega),set_objs_ne _ _ (by omega)]
     have hn1:((σy.set id .dead).new (.cells (intsV (o ++ [i])) 3 1 true)).objs 1 = σy.objs 1:=by rw [new_objs_ne _ _ (by show 1 ≠ σy.next; omega),set_objs_ne _ _ (by omega)]
     have hi0:Int.toNat (nextV ls out q) = i:=by omega
     refine ⟨⟨_,gt⟩,ho1,pre,⟨intsZ tab,gt⟩,ho1,fits,_,val,⟨intsV o,g⟩,hoid,⟨rfl,⟨by omega,by omega⟩,by show o.length * 1 <= (intsV o).length; rw [intsV_len]; omega⟩,?_⟩
     show ∃ a7:OE,((σy.set id .dead).new (.cells (List.take (o.length * 1) (intsV o) ++ [AV.int .i64 (nextV ls out q)]) 3 1 true)).objs 1 = _ /\ _
     rw [ecs]
     refine ⟨⟨_,gt⟩,by rw [hn1]; exact ho1,pre,⟨intsZ tab,gt⟩,?_,fits,_,val,⟨intsV (stepsN ls 0),gs⟩,?_,⟨by omega,by omega⟩,⟨intsV (stepsN ls 0),gs⟩,?_,?_,prodL (ls.drop (i + 1)),?_,
      ⟨_,.rslice σy.next 0 (o.length + 1),o ++ [i],q.set i (q.getD i 0 + 1)⟩,⟨next i _ σy.next true (by omega) h7 h8 h9 ⟨⟨gs,hn0.trans ho0⟩,⟨gt,hn1.trans ho1⟩,by show 2 <= σy.next + 1; omega⟩ hnx (State.new_objs _ _),?_⟩,rfl,?_,rfl,rfl,rfl,rfl,rfl,?_⟩
     ·exact hn1.trans ho1
     ·exact hn0.trans ho0
     ·exact hn0.trans ho0
     ·show (0 + Int.toNat (nextV ls out q)) * 1 < (intsV (stepsN ls 0)).length
      rw [hi0,intsV_len,stepsN_len]; omega
     ·show (intsV (stepsN ls 0)).getD ((0 + Int.toNat (nextV ls out q)) * 1) .undef = _
      rw [hi0,show (0 + i) * 1 = i by omega]; exact steps_getD h7
     ·show sumL ls - (o ++ [i]).length < sumL ls - o.length
      rw [List.length_append]; show sumL ls - (o.length + 1) < _; omega
     ·rw [step i h7]
     ·exact .refl _
   ·have h:=of_decide_eq_false h
    have h2:o.length < sumL ls:=h2
    exact absurd (show (o.length:Int) < (sumL ls:Int) by omega) h
 ·obtain ⟨σy,v,o,q⟩:=y
  obtain ⟨⟨tab,hst,htab⟩,hb,hol,hord,hmg⟩:=hI
  change Bnd ls q at hb
  change o.length = q.sum at hol
  change OrdB σy v o at hord
  change mgF ls out out.length (zeros ls) = (mgF ls out (out.length - q.sum) q).map (o ++ ·) at hmg
  have hqs:=hb.sum
  cases e with
  | exit j =>
   match j,kk with
   | 8,kk =>
    have hk:¬ o.length < sumL ls:=kk.1
    refine ⟨_,_,(atF_ok kk.2).1,(atF_ok kk.2).2,hR1 ⟨σy,v,o,q⟩ ⟨?_,hord⟩⟩
    rw [hmg,show out.length - q.sum = 0 by omega,mgF]
    simp
  | ret =>
   have hk:o.length < sumL ls /\ nextV ls out q < 0:=kk.1
   refine ⟨_,σ',(atF_ok kk.2).1,.refl _,hR2 ?_ _⟩
   rcases nextV_split (ls:=ls) (out:=out) (q:=q) (by omega) with ⟨_,h6⟩ | ⟨i,h6,_⟩
   ·rw [hmg,h6]; rfl
   ·omega
  | normal => exact absurd rfl hne
  | _ => exact kk.elim
end
end Go.V
/- The reference's Check: the function. -/
namespace Go.V
open Go Go.Proofs

def C19:Contract:=fun args σ K => ∃ (ls:List (List T)) (out:List T),args = [.slice 1 (lsV ls) .any,slV out] /\ (ls.length <= 1000 /\ sumL ls <= 1000000 /\ out.length <= 1000000 /\ (∀ l ∈ ls,∀ x ∈ l,x.bulk <= 1099511627776) /\ ∀ x ∈ out,x.bulk <= 1099511627776) /\
 K (.tuple [.slice 1 (intsV (checkS ls out).1) .any,.bool (checkS ls out).2.1,.int .i64 (checkS ls out).2.2]) σ.untok
theorem Ret18.ordB {b:Bool} {e:Int} {σ:State} {order:List Nat} {v:AV} (hv:OrdB σ v order):Ret18 (order,b,e) v b e σ:=by
 rcases hv with ⟨rfl,rfl⟩ | ⟨id,g,rfl,_,hov⟩
 ·refine ⟨[.slice 1 [] .full,.bool b,.int .i64 e],?_,.cons (Wk.slice 1 _ _) (.cons (.refl _) (.cons (.refl _) .nil))⟩
  rfl
 ·have hd:deep Tryz.prog σ 3 (.rslice id 0 order.length) = some (.slice 1 (intsV order) .nn):=by
   refine deep_rslice (n:=2) (off:=0) (len:=order.length) hov kind3 rfl (by omega) (by rw [intsV_len]; omega) ?_
   rw [Nat.zero_mul,List.drop_zero,Nat.mul_one,<-intsV_len order,List.take_length,chunk_one _ _ (Nat.le_refl _),List.take_length,deep_intsV]
  refine ⟨[.slice 1 (intsV order) .nn,.bool b,.int .i64 e],?_,.cons (Wk.slice 1 _ _) (.cons (.refl _) (.cons (.refl _) .nil))⟩
  simp only [List.mapM_cons,List.mapM_nil,hd]
  rfl
theorem replicate_intsV (n:Nat):List.flatten (List.replicate (Int.toNat (n:Int)) (AV.cells (av (Go.Value.int .i64 0)))) = intsV (List.replicate n 0):=by
 rw [Int.toNat_natCast]; exact ints0 n
theorem replicate_intsZ (n:Nat):List.flatten (List.replicate (Int.toNat (n:Int)) (AV.cells (av (Go.Value.int .i64 0)))) = intsZ (List.replicate n 0):=by
 rw [replicate_intsV,intsV_Z,List.map_replicate]; rfl

section
variable {B:Nat} {w0:World} {G:Nat -> AV} {S:Nat} {ls:List (List T)} {out:List T}
variable (hG:∀ i,NoId (G i))
include hG

theorem c19b (hlen:ls.length <= 1000) (hsum:sumL ls <= 1000000) (hp:prodL ls <= 20000) (hso:sumL ls = out.length) (r:List Nat × Bool × Int)
  (hr1:∀ o,mgF ls out out.length (zeros ls) = some o -> r = (o,true,0)) (hr2:mgF ls out out.length (zeros ls) = none -> r = ([],false,0)) {σ:State} (hI:R19t ls out σ) :
  AWp (EV B w0 G) none (fnTmps Tryz.prog 19) (part19b Tryz.prog) (P18' (Ret18 r)) (frm (F19b ls out) []) σ:=by
 refine wpX_ok (cuts:=cuts19) (H19_ok (S:=0) hG) (EV_mixed B w0 G) _ _ _ _ (fun lp hl hc Q a σ k => ?_) (by kernel_rfl) ((vc19b B w0 G 0 ls out (I37 ls out) (R37 ls out) (mgF ls out out.length (zeros ls) = none) (Ret18 r) σ).mpr ⟨⟨σ,.slice 1 [] .full,[],zeros ls⟩,?_,⟨rfl,?_,rfl,rfl,rfl,rfl,rfl,.refl _⟩,fun y' hy => ⟨y'.v,true,0,?_,rfl,rfl,rfl,trivial⟩,fun hno σ' => ⟨.nilslice,false,0,Ret18.nil (hr2 hno),rfl,rfl,rfl,trivial⟩⟩)
 ·change lp ∈ partsIn cuts19 (part19b Tryz.prog) at hl
  rw [partsIn_19b] at hl
  simp only [List.mem_cons,List.not_mem_nil,or_false] at hl
  subst hl
  exact handL_ok (P:=fun c Q a σ => AWp (EV B w0 G) none (fnTmps Tryz.prog 19) c Q a σ) k (fun _ k => c19l hG hlen hsum hp hso k) (fun k => k.elim)
 ·refine ⟨hI,Bnd0 ls,?_,.inl ⟨rfl,rfl⟩,?_⟩
  ·show 0 = (zeros ls).sum
   exact (sum0 _).symm
  ·show _ = (mgF ls out (out.length - (zeros ls).sum) (zeros ls)).map ([] ++ ·)
   have e:(zeros ls).sum = 0:=sum0 _
   rw [e,Nat.sub_zero]
   cases mgF ls out out.length (zeros ls) <;> rfl
 ·show TV.v (AV.int .i64 0) = TV.v (AV.int .i64 (codeR ls (zeros ls):Int))
  have e:codeR ls (zeros ls) = 0:=codeR0 ls
  rw [e]; rfl
 ·obtain ⟨h1,h2⟩:=hy
  rw [hr1 _ h1]
  exact Ret18.ordB h2

theorem c19a (hlen:ls.length <= 1000) (hsum:sumL ls <= 1000000) (hsm:∀ l ∈ ls,∀ x ∈ l,x.small /\ SizeOf.sizeOf x < S) (r:List Nat × Bool × Int) (hr0:sumL ls ≠ out.length -> r = ([],false,0))
  (hr1:sumL ls = out.length -> ∀ o,mgF ls out out.length (zeros ls) = some o -> r = (o,true,0)) (hr2:sumL ls = out.length -> mgF ls out out.length (zeros ls) = none -> r = ([],false,0)) {σ:State} (hI:R19s ls σ) :
  AWp (EV B w0 G) none (fnTmps Tryz.prog 19) (part19a Tryz.prog) (P18' (Ret18 r)) (frm (F19s ls out (prodL ls) (sumL ls)) []) σ:=by
 obtain ⟨hp,hn,g,hob⟩:=hI
 by_cases hso:sumL ls = out.length
 ·have hpos:=prodL_pos ls
  refine wpX_ok (cuts:=cuts19) (H19_ok (S:=S) hG) (EV_mixed B w0 G) _ _ _ _ (fun lp hl hc Q a σ k => ?_) (by kernel_rfl) ((vc19a B w0 G S ls out (I19t ls out) (R19t ls out) (R19t ls out) (Ret18 r) σ).mpr (bcase_of (fun h => ?_) (fun h => ?_)))
  ·change lp ∈ partsIn cuts19 (part19a Tryz.prog) at hl
   rw [partsIn_19a] at hl
   simp only [List.mem_cons,List.not_mem_nil,or_false] at hl
   rcases hl with rfl | rfl
   ·refine handL_ok (P:=fun c Q a σ => AWp (EV B w0 G) none (fnTmps Tryz.prog 19) c Q a σ) k (fun _ k => c19t hG hlen hsum hp hso hsm k) (fun k => ?_)
    exact handL_ok (P:=fun c Q a σ => AWp (EV B w0 G) none (fnTmps Tryz.prog 19) c Q a σ) k (fun h k => by rw [headId_19a.1] at h; cases h) (fun k => k.elim)
   ·refine handL_ok (P:=fun c Q a σ => AWp (EV B w0 G) none (fnTmps Tryz.prog 19) c Q a σ) k (fun h k => by rw [headId_19a.2] at h; cases h) (fun k => ?_)
    refine handL_ok (P:=fun c Q a σ => AWp (EV B w0 G) none (fnTmps Tryz.prog 19) c Q a σ) k (fun h k => ?_) (fun k => k.elim)
    obtain ⟨σ0,hI0,hat,hR⟩:=k
    refine .post_wk (.pre_wk (atF_ok hat).1 (atF_ok hat).2 ((c19b hG hlen hsum hp hso r (hr1 hso) (hr2 hso) hI0).mono fun e a σ k => ?_))
    cases e with
    | ret =>
     obtain ⟨v,b,err,h1,h2⟩:=k
     exact ⟨_,_,(atF_ok h2).1,.refl _,hR _ _ _ _ h1⟩
    | _ => exact k.elim
  ·have h:¬ ((sumL ls:Int) = ((tcellL out).length:Int)):=by simpa [bne] using h
   rw [tcellL_length] at h
   exact absurd (by omega) h
  ·have hn0:(σ.new (.cells (List.flatten (List.replicate (Int.toNat (prodL ls:Int)) (AV.cells (av (Go.Value.int .i64 0))))) 3 1 false)).objs 0 = σ.objs 0:=new_objs_ne _ _ (by omega)
   refine ⟨⟨by omega,by omega,by omega,by omega⟩,⟨σ.new (.cells (List.flatten (List.replicate (Int.toNat (prodL ls:Int)) (AV.cells (av (Go.Value.int .i64 0))))) 3 1 false),prodL ls⟩,⟨Nat.le_refl _,List.replicate (prodL ls) 0,⟨⟨g,hn0.trans hob⟩,⟨false,?_⟩,?_⟩,?_⟩,⟨?_,rfl,rfl,rfl,rfl,?_,.refl _⟩,fun σ' hR => ⟨σ',hR,⟨rfl,rfl,rfl,rfl,rfl,.refl _⟩,fun v b err σ'' h => ⟨v,b,err,h,rfl,rfl,rfl,trivial⟩⟩⟩
   ·show (σ.new _).objs 1 = _
    rw [<-replicate_intsZ]
    have:=State.new_objs σ (.cells (List.flatten (List.replicate (Int.toNat (prodL ls:Int)) (AV.cells (av (Go.Value.int .i64 0))))) 3 1 false)
    rw [hn] at this; exact this
   ·show 2 <= σ.next + 1
    omega
   ·refine ⟨List.length_replicate,fun q hq hk => ?_⟩
    have:=codeR_lt hq
    have hk:prodL ls <= codeR ls q:=hk
    omega
   ·show TV.v (AV.int .i64 (IntKind.wrap .i64 ((prodL ls:Int) - 1))) = TV.v (AV.int .i64 ((prodL ls:Int) - 1))
    rw [wr_small (by omega) (by omega)]
   ·rw [hn,Int.toNat_natCast]
 ·refine wpX_ok (cuts:=cuts19) (H19_ok (S:=S) hG) (EV_mixed B w0 G) _ _ _ _ (fun lp hl hc Q a σ k => ?_) (by kernel_rfl) ((vc19a B w0 G S ls out (fun _ => False) (fun _ => False) (fun _ => False) (Ret18 r) σ).mpr (bcase_of (fun h => ⟨_,_,_,Ret18.nil (hr0 hso),rfl,rfl,rfl,trivial⟩) (fun h => ?_)))
  ·refine handL_ok (P:=fun c Q a σ => AWp (EV B w0 G) none (fnTmps Tryz.prog 19) c Q a σ) k (fun h ⟨_,k,_⟩ => k.elim) (fun k => ?_)
   exact handL_ok (P:=fun c Q a σ => AWp (EV B w0 G) none (fnTmps Tryz.prog 19) c Q a σ) k (fun h ⟨_,k,_⟩ => k.elim) (fun k => k.elim)
  ·have h:(sumL ls:Int) = ((tcellL out).length:Int):=by simpa [bne] using h
   rw [tcellL_length] at h
   exact absurd (by omega) hso

theorem c19_ok:ContractOk (EV B w0 G) 19 C19:=by
 rintro args σ Q ⟨ls,out,rfl,⟨hb1,hb2,hb3,hbk1,hbk2⟩,hQ⟩
 refine pureT hG (N:=3) (fun y hy => ?_) (fun y hy => ?_) ?_ hQ
 ·simp only [List.mem_cons,List.not_mem_nil,or_false] at hy
  rcases hy with rfl | rfl
  ·exact lsV_noId ls
  ·exact slV_noId out
 ·simp only [List.mem_cons,List.not_mem_nil,or_false] at hy
  rcases hy with rfl | rfl | rfl
  ·exact .slice (by simp) (intsV_noId _)
  ·exact .bool _
  ·exact .int _ _
 clear hQ Q
 have hend:∀ (v:AV) (b:Bool) (err:Int) (σ':State),Ret18 (checkS ls out) v b err σ' -> ∃ vs vs',AV.tuple [v,.bool b,.int .i64 err] = .tuple vs /\ vs.mapM (deep Tryz.prog σ' 3) = some vs' /\
   WkL vs' [.slice 1 (intsV (checkS ls out).1) .any,.bool (checkS ls out).2.1,.int .i64 (checkS ls out).2.2]:=fun v b err σ' ⟨vs,h1,h2⟩ => ⟨_,vs,rfl,h1,h2⟩
 have hH:HOk1 (EV B w0 G) (H19 (EV B w0 G) (SizeOf.sizeOf ls + 1)):=H19_ok hG
 have happ:(ls ++ [out]).all (fun l => l.all grT) = (ls.all (fun l => l.all grT) && out.all grT):=by rw [List.all_append]; simp
 refine bodyX_ok (cuts:=cuts19) (EV_mixed B w0 G) hH (fun lp hl _ Q a' σ kk => ?_) ((vc19 B w0 G (SizeOf.sizeOf ls + 1) ls out (I19s ls) (R19s ls) (fun σ0 => R19s ls σ0 /\ ls.length <= 8 /\ (ls ++ [out]).all (fun l => l.all grT) = true) (Ret18 (checkS ls out)) _).mpr ⟨ls,rfl,⟨hb1,fun l hl => ⟨?_,hbk1 l hl⟩⟩,bcase_of (fun h => ?_) (fun h => ⟨out,rfl,⟨hb3,hbk2⟩,bcase_of (fun h2 => ?_) (fun h2 => ?_)⟩)⟩)
 ·change lp ∈ fnParts Tryz.prog cuts19 19 at hl
  rw [fnParts_19] at hl
  simp only [List.mem_cons,List.not_mem_nil,or_false] at hl
  rcases hl with rfl | rfl
  ·refine handL_ok (P:=fun c Q a σ => AWp (EV B w0 G) none (fnTmps Tryz.prog 19) c Q a σ) kk (fun _ k => c19s hG hb1 hb2 k) (fun k => ?_)
   exact handL_ok (P:=fun c Q a σ => AWp (EV B w0 G) none (fnTmps Tryz.prog 19) c Q a σ) k (fun h k => by rw [headId_19.1] at h; cases h) (fun k => k.elim)
  ·refine handL_ok (P:=fun c Q a σ => AWp (EV B w0 G) none (fnTmps Tryz.prog 19) c Q a σ) kk (fun h k => by rw [headId_19.2] at h; cases h) (fun k => ?_)
   refine handL_ok (P:=fun c Q a σ => AWp (EV B w0 G) none (fnTmps Tryz.prog 19) c Q a σ) k (fun h k => ?_) (fun k => k.elim)
   obtain ⟨σ0,⟨hI0,hl8,hgr⟩,hat,hR⟩:=k
   have n1:¬ 8 < ls.length:=by omega
   have n2:¬ ((ls ++ [out]).all (fun l => l.all grT) = false):=by rw [hgr]; simp
   have n3:¬ 20000 < prodL ls:=by have:=hI0.1; omega
   have hsm:∀ l ∈ ls,∀ x ∈ l,x.small /\ SizeOf.sizeOf x < SizeOf.sizeOf ls + 1:=fun l hl x hx => by
    have h1:=List.sizeOf_lt_of_mem hl
    have h2:=List.sizeOf_lt_of_mem hx
    refine ⟨?_,by omega⟩
    have hg:grT x = true:=List.all_eq_true.1 (List.all_eq_true.1 hgr l (by simp [hl])) x hx
    refine chk_small ?_
    cases hc:decide (chkT x = 0) with
    | true => exact of_decide_eq_true hc
    | false =>
     rw [grT_chk (of_decide_eq_false hc)] at hg; cases hg
   refine .post_wk (.pre_wk (atF_ok hat).1 (atF_ok hat).2 ((c19a hG (S:=SizeOf.sizeOf ls + 1) hb1 hb2 hsm (checkS ls out) (fun hs => ?_) (fun hs o ho => ?_) (fun hs ho => ?_) hI0).mono fun e a σ k => ?_))
   ·unfold checkS
    rw [if_neg n1,if_neg n2,if_neg n3,if_pos hs]
   ·have ho:mgF ls out out.length (List.replicate ls.length 0) = some o:=ho
    unfold checkS
    rw [if_neg n1,if_neg n2,if_neg n3,if_neg (by simpa using hs),ho]
   ·have ho:mgF ls out out.length (List.replicate ls.length 0) = none:=ho
    unfold checkS
    rw [if_neg n1,if_neg n2,if_neg n3,if_neg (by simpa using hs),ho]
   ·cases e with
    | ret =>
     obtain ⟨v,b,err,h1,h2⟩:=k
     exact ⟨_,_,(atF_ok h2).1,.refl _,hR _ _ _ _ h1⟩
    | _ => exact k.elim
 ·have:=sumL_mem hl; omega
 ·have h:listsE ls ≠ 0:=by simpa [bne] using h
  refine hend _ _ _ _ (Ret18.nil ?_)
  unfold listsE at h ⊢
  unfold checkS
  by_cases h8:8 < ls.length
  ·rw [if_pos h8,if_pos h8]
  ·rw [if_neg h8] at h
   rw [if_neg h8,if_neg h8]
   by_cases ha:ls.all (fun l => l.all grT) = true
   ·rw [if_pos ha] at h; exact absurd rfl h
   ·rw [if_neg ha,if_pos]
    rw [happ]
    cases hx:ls.all (fun l => l.all grT) with
    | true => exact absurd hx ha
    | false => rfl
 all_goals
  have h:listsE ls = 0:=by simpa [bne] using h
  have h8:¬ 8 < ls.length:=fun h8 => by unfold listsE at h; rw [if_pos h8] at h; cases h
  have ha:ls.all (fun l => l.all grT) = true:=by
   cases hx:ls.all (fun l => l.all grT) with
   | true => rfl
   | false => unfold listsE at h; rw [if_neg h8,hx] at h; cases h
 ·have h2:out.all grT = false:=by simpa using h2
  refine hend _ _ _ _ (Ret18.nil ?_)
  unfold checkS
  rw [if_neg h8,if_pos (by rw [happ,ha,h2]; rfl)]
 ·have h2:out.all grT = true:=by simpa using h2
  have hgr:(ls ++ [out]).all (fun l => l.all grT) = true:=by rw [happ,ha,h2]; rfl
  rw [lsV_len,replicate_intsV]
  refine ⟨⟨by omega,by omega,by omega,by omega⟩,⟨noObj.new (.cells (intsV (List.replicate ls.length 0)) 3 1 false),ls.length⟩,⟨Nat.le_refl _,?_,rfl,false,?_⟩,⟨?_,rfl,rfl,?_,?_,?_,.refl _⟩,fun σ' hR => ⟨σ',⟨hR,by omega,hgr⟩,⟨rfl,rfl,rfl,rfl,rfl,.refl _⟩,hend⟩,fun σ' hp => hend _ _ _ _ (Ret18.nil ?_)⟩
  ·show prodL (ls.drop ls.length) <= 20000
   rw [List.drop_length]; show 1 <= 20000; omega
  ·show (noObj.new _).objs 0 = AObj.cells (intsV (stepsN ls ls.length)) 3 1 false
   rw [stepsN_last]; rfl
  ·show TV.v (AV.int .i64 (IntKind.wrap .i64 ((ls.length:Int) - 1))) = TV.v (AV.int .i64 ((ls.length:Int) - 1))
   rw [wr_small (by omega) (by omega)]
  ·rw [Int.toNat_natCast]
  ·show TV.v (AV.int .i64 1) = TV.v (AV.int .i64 (prodL (ls.drop ls.length):Int))
   rw [List.drop_length]; rfl
  ·show TV.v (AV.int .i64 0) = TV.v (AV.int .i64 (sumL (ls.drop ls.length):Int))
   rw [List.drop_length]; rfl
  ·unfold checkS
   rw [if_neg h8,if_neg (by rw [hgr]; simp),if_pos hp]
end
end Go.V
