import Derived.Test.YtgnjidopnplbbaaGreatDoorG45
/- The reference's Check: the steps. -/
set_option maxRecDepth 1000000
set_option linter.unusedVariables false
set_option linter.unusedSimpArgs false
set_option linter.unusedSectionVars false
namespace Go.V
open Go Go.Proofs

def I19s (ls:List (List T)) (y:Y19):Prop:=y.k <= ls.length /\ prodL (ls.drop y.k) <= 20000 /\ y.σ.next = 1 /\ ∃ g,y.σ.objs 0 = .cells (intsV (stepsN ls y.k)) 3 1 g
def R19s (ls:List (List T)) (σ:State):Prop:=prodL ls <= 20000 /\ σ.next = 1 /\ ∃ g,σ.objs 0 = .cells (intsV (stepsN ls 0)) 3 1 g

theorem set_objs_self (σ:State) (id:Nat) (o:AObj):(σ.set id o).objs id = o:=if_pos rfl
theorem set_objs_ne (σ:State) {id j:Nat} (o:AObj) (h:j ≠ id):(σ.set id o).objs j = σ.objs j:=if_neg h
theorem new_objs_ne (σ:State) {j:Nat} (o:AObj) (h:j ≠ σ.next):(σ.new o).objs j = σ.objs j:=if_neg h
theorem wr_cast {n:Nat} (h:n <= 9223372036854775807):IntKind.wrap .i64 (n:Int) = (n:Int):=wr_small (by omega) (by omega)
section
variable {B:Nat} {w0:World} {G:Nat -> AV} {S:Nat} {ls:List (List T)} {out:List T}
variable (hG:∀ i,NoId (G i))
include hG

theorem H19_ok:HOk1 (EV B w0 G) (H19 (EV B w0 G) S):=hnd_ok (EV_mixed B w0 G) (contracts_cons (c63_ok hG) (contracts_cons (c64_ok hG) (contracts_cons (c33_ok hG S) contracts_nil)))

theorem c19s (hlen:ls.length <= 1000) (hsum:sumL ls <= 1000000) {Q:Post} {a:AAct} {σ:State} (h:T19s ls out (I19s ls) (R19s ls) (.loop (bodyOf (part19s Tryz.prog))) Q a σ) :
  AWp (EV B w0 G) none (fnTmps Tryz.prog 19) (.loop (bodyOf (part19s Tryz.prog))) Q a σ:=by
 obtain ⟨y0,hI0,hat,hR1,hR2⟩:=h
 refine awp_loopS (ls19s ls out (I19s ls)) (x0:=y0) (fun y hI => ?_) (fun y hI e a' σ' hne kk => ?_) hI0 hat
 ·obtain ⟨hk,hp,hn,g,hob⟩:=hI
  refine wpX_ok (cuts:=cuts19) (L:=fun _ _ _ _ => False) (H19_ok (S:=0) hG) (EV_mixed B w0 G) _ _ _ _ (fun _ _ _ Q a σ k => k.elim) (by kernel_rfl) ((vc19s B w0 G 0 ls out (I19s ls) y).mpr (bcase_of (fun h => ?_) (fun h => ⟨?_,rfl,rfl,rfl,rfl,rfl,.refl _⟩)))
  ·have h:=of_decide_eq_true h
   obtain ⟨k,hk1⟩:∃ k,y.k = k + 1:=⟨y.k - 1,by omega⟩
   have hkl:k < ls.length:=by omega
   have hm:=sumL_mem (List.getElem_mem hkl)
   have e1:Int.toNat ((y.k:Int) - 1) = k:=by omega
   have hcell:AV.vptr (AV.cells (List.getD (lsV ls) k AV.undef)) = AV.vptr [slV ls[k]]:=by rw [lsV_get hkl]; rfl
   have hlen2:(tcellL ls[k]).length = ls[k].length:=tcellL_length _
   have hmul:prodL (ls.drop (k + 1)) * (ls[k].length + 1) = prodL (ls.drop k):=by rw [prodL_drop hkl,Nat.mul_comm]
   have hmb:prodL (ls.drop (k + 1)) * (ls[k].length + 1) <= 20000 * 1000001:=Nat.mul_le_mul (by rw [hk1] at hp; exact hp) (by omega)
   have hsb:sumL (ls.drop (k + 1)) <= 1000000:=by
    have:=sumL_drop hkl
    have h2:sumL (ls.drop k) <= sumL ls:=by
     have e:=congrArg sumL (List.take_append_drop k ls)
     unfold sumL at e ⊢
     rw [List.map_append,List.sum_append] at e
     omega
    omega
   have w1:IntKind.wrap .i64 (((tcellL ls[k]).length:Int) + 1) = ((ls[k].length + 1:Nat):Int):=by rw [hlen2,wr_small (by omega) (by omega)]; omega
   have w2:IntKind.wrap .i64 ((prodL (ls.drop (k + 1)):Int) * ((ls[k].length + 1:Nat):Int)) = (prodL (ls.drop k):Int):=by
    rw [<-Int.natCast_mul,hmul,wr_cast (by omega)]
   have w3:IntKind.wrap .i64 ((sumL (ls.drop (k + 1)):Int) + ((tcellL ls[k]).length:Int)) = (sumL (ls.drop k):Int):=by
    rw [hlen2,wr_small (by omega) (by omega),sumL_drop hkl]; omega
   have w4:IntKind.wrap .i64 (((y.k:Int) - 1) - 1) = ((k:Int) - 1):=by rw [wr_small (by omega) (by omega)]; omega
   rw [e1]
   rw [hk1] at hob hp
   rw [hk1]
   refine ⟨⟨_,g⟩,hob,⟨by omega,by omega⟩,⟨_,g⟩,hob,?_,⟨by omega,by rw [lsV_len]; omega⟩,ls[k],hcell,⟨by omega,by rw [lsV_len]; omega⟩,ls[k],hcell,?_⟩
   ·show (0 + k) * 1 + 1 <= (intsV (stepsN ls (k + 1))).length
    rw [intsV_len,stepsN_len]; omega
   ·rw [w1,w2,w3]
    refine bcase_of (fun hb => ⟨?_,rfl,rfl,rfl,trivial⟩) (fun hb => ⟨⟨y.σ.set 0 (.cells (intsV (stepsN ls k)) 3 1 g),k⟩,⟨⟨by show k <= ls.length; omega,?_,hn,g,set_objs_self _ _ _⟩,?_⟩,?_,rfl,rfl,rfl,rfl,rfl,?_⟩)
    ·have hb:=of_decide_eq_true hb
     have:=prodL_drop_le ls k
     omega
    ·have hb:=of_decide_eq_false hb
     show prodL (ls.drop k) <= 20000
     omega
    ·show k < y.k
     omega
    ·rw [hk1] at w4; rw [w4]
    ·have e2:asplice (intsV (stepsN ls (k + 1))) ((0 + k) * 1) [.int .i64 (prodL (ls.drop (k + 1)):Int)] = intsV (stepsN ls k):=by
      rw [show (0 + k) * 1 = k by omega,asp1 (by rw [intsV_len,stepsN_len]; exact hkl),intsV_set,stepsN_set _ _ hkl]
     exact Eq.subst (motive:=fun cs => State.Le (State.set y.σ 0 (.cells (intsV (stepsN ls k)) 3 1 g)) (State.set y.σ 0 (.cells cs 3 1 g))) e2.symm (.refl _)
  ·have h:=of_decide_eq_false h
   omega
 ·obtain ⟨hk,hp,hn,g,hob⟩:=hI
  cases e with
  | exit j =>
   match j,kk with
   | 0,kk =>
    obtain ⟨h0,hat⟩:=kk
    rw [h0] at hob hat hp
    rw [List.drop_zero] at hat hp
    exact ⟨_,_,(atF_ok hat).1,(atF_ok hat).2,hR1 _ ⟨hp,hn,g,hob⟩⟩
  | ret => exact ⟨_,σ',(atF_ok kk.2).1,.refl _,hR2 _ kk.1⟩
  | normal => exact absurd rfl hne
  | _ => exact kk.elim
end
end Go.V
/- The reference's Check: digits, and which list goes on. -/
namespace Go.V
open Go Go.Proofs

structure St19 (ls:List (List T)) (tab:List Int) (σ:State):Prop where
 st:∃ g,σ.objs 0 = .cells (intsV (stepsN ls 0)) 3 1 g
 tb:∃ g,σ.objs 1 = .cells (intsZ tab) 3 1 g
 nx:2 <= σ.next
theorem untok_cells' {σ:State} {b:Nat} {cs:List AV} {e sz:Nat} {g:Bool} (h:σ.objs b = .cells cs e sz g):σ.untok.objs b = .cells cs e sz g:=by
 unfold State.untok; dsimp only; rw [h]
theorem St19.untok {ls:List (List T)} {tab:List Int} {σ:State} (h:St19 ls tab σ):St19 ls tab σ.untok:=by
 obtain ⟨⟨g,h1⟩,⟨g',h2⟩,h3⟩:=h
 exact ⟨⟨g,untok_cells' h1⟩,⟨g',untok_cells' h2⟩,h3⟩
theorem St19.set {ls:List (List T)} {tab:List Int} {σ:State} (h:St19 ls tab σ) (tab':List Int) (g:Bool):St19 ls tab' (σ.set 1 (.cells (intsZ tab') 3 1 g)):=by
 obtain ⟨⟨g,h1⟩,h2,h3⟩:=h
 exact ⟨⟨g,by rw [set_objs_ne _ _ (by omega)]; exact h1⟩,⟨_,set_objs_self _ _ _⟩,h3⟩

theorem take_sum {p:List Nat} {i:Nat} (h:i < p.length):(p.take (i + 1)).sum = (p.take i).sum + p.getD i 0:=by
 rw [List.take_succ_eq_append_getElem h,List.sum_append,List.getD_eq_getElem?_getD,List.getElem?_eq_getElem h]; simp
theorem digI {ls:List (List T)} {p:List Nat} {i:Nat} {l:List T} (hp:prodL ls <= 20000) (hb:Bnd ls p) (h:ls[i]? = some l) (hl:l.length <= 1000000) :
  Int.tmod (IntKind.wrap .i64 (Int.tdiv (codeR ls p:Int) (prodL (ls.drop (i + 1)):Int))) (IntKind.wrap .i64 (((tcellL l).length:Int) + 1)) = (p.getD i 0:Int):=by
 have h1:=codeR_lt hb
 have h2:codeR ls p / prodL (ls.drop (i + 1)) <= codeR ls p:=Nat.div_le_self _ _
 rw [<-Int.ofNat_tdiv,wr_cast (by omega),tcellL_length,show ((l.length:Int) + 1) = ((l.length + 1:Nat):Int) by omega,wr_cast (by omega),<-Int.ofNat_tmod,codeR_dig hb h]
theorem wr_len1 {l:List T} (hl:l.length <= 1000000):IntKind.wrap .i64 (((tcellL l).length:Int) + 1) ≠ 0:=by
 rw [tcellL_length,show ((l.length:Int) + 1) = ((l.length + 1:Nat):Int) by omega,wr_cast (by omega)]; omega
theorem steps_getD {ls:List (List T)} {i:Nat} (h:i < ls.length):(intsV (stepsN ls 0)).getD i .undef = .int .i64 (prodL (ls.drop (i + 1)):Int) :=
 intsV_getS (by rw [stepsN_get _ _ _ h,if_pos (Nat.zero_le _)])

section
variable {B:Nat} {w0:World} {G:Nat -> AV} {S:Nat} {ls:List (List T)} {out:List T}
variable (hG:∀ i,NoId (G i))
include hG

def P19d (ls:List (List T)) (p:List Nat) (σ:State):Prop:=Bnd ls p /\ ∃ g,σ.objs 0 = .cells (intsV (stepsN ls 0)) 3 1 g

theorem c19d (hlen:ls.length <= 1000) (hsum:sumL ls <= 1000000) (hp:prodL ls <= 20000) {Q:Post} {a:AAct} {σ:State} (h:T19d ls out (P19d ls) (.loop (bodyOf (part19d Tryz.prog))) Q a σ) :
  AWp (EV B w0 G) none (fnTmps Tryz.prog 19) (.loop (bodyOf (part19d Tryz.prog))) Q a σ:=by
 obtain ⟨p,σ0,⟨hb,g,hob⟩,hat,hR⟩:=h
 have hpl:=hb.len
 refine awp_loopS (ls19d ls out p σ0) (x0:=0) (fun i hI => ?_) (fun i hI e a' σ' hne kk => ?_) (Nat.zero_le _) hat
 ·have hi:i <= ls.length:=hI
  refine wpX_ok (cuts:=cuts19) (L:=fun _ _ _ _ => False) (H19_ok (S:=0) hG) (EV_mixed B w0 G) _ _ _ _ (fun _ _ _ Q a σ k => k.elim) (by kernel_rfl) ((vc19d B w0 G 0 ls out p σ0 i).mpr (bcase_of (fun h => ?_) (fun h => ⟨fun h2 => ?_,rfl,rfl,rfl,rfl,rfl,rfl,rfl,.refl _⟩)))
  ·have h:=of_decide_eq_true h
   have hk:i < ls.length:=by rw [lsV_len] at h; omega
   have hm:=sumL_mem (List.getElem_mem hk)
   have hcell:AV.vptr (AV.cells (List.getD (lsV ls) i AV.undef)) = AV.vptr [slV ls[i]]:=by rw [lsV_get hk]; rfl
   have hd:=digI (i:=i) hp hb (List.getElem?_eq_getElem hk) (by omega)
   have hts:=take_sum (p:=p) (i:=i) (by omega)
   have hsb:=Bnd.sum hb
   have htk:(p.take (i + 1)).sum <= p.sum:=by
    have e:=congrArg List.sum (List.take_append_drop (i + 1) p)
    rw [List.sum_append] at e
    omega
   refine ⟨⟨_,g⟩,hob,⟨by omega,by omega⟩,⟨intsV (stepsN ls 0),g⟩,hob,?_,prodL (ls.drop (i + 1)),?_,?_,⟨by omega,h⟩,ls[i],by rw [Int.toNat_natCast]; exact hcell,wr_len1 (by omega),i + 1,⟨hk,?_⟩,?_,?_,rfl,rfl,rfl,rfl,rfl,rfl,.refl _⟩
   ·rw [idx1]; show i < (intsV (stepsN ls 0)).length; rw [intsV_len,stepsN_len]; exact hk
   ·rw [idx1]; exact steps_getD hk
   ·have:=prodL_pos (ls.drop (i + 1)); omega
   ·show ls.length - (i + 1) < ls.length - i
    omega
   ·rw [show ((i:Int) + 1) = ((i + 1:Nat):Int) by omega,wr_cast (by omega)]
   ·rw [hd,show (((p.take i).sum:Int) + (p.getD i 0:Int)) = ((p.take (i + 1)).sum:Int) by rw [hts]; omega,wr_cast (by omega)]
  ·have h:=of_decide_eq_false h
   rw [lsV_len] at h; omega
 ·have hi:i <= ls.length:=hI
  cases e with
  | exit j =>
   match j,kk with
   | 4,kk =>
    obtain ⟨h0,hat⟩:=kk
    rw [show i = p.length by omega,List.take_length] at hat
    exact ⟨_,_,(atF_ok hat).1,(atF_ok hat).2,hR⟩
  | normal => exact absurd rfl hne
  | _ => exact kk.elim

def I19q (ls:List (List T)) (out:List T) (p:List Nat) (y:Y19):Prop:=y.k <= ls.length /\ ∃ tab,St19 ls tab y.σ /\ TabAt ls out p y.k tab
def P19q (ls:List (List T)) (out:List T) (p:List Nat) (σ:State):Prop:=Bnd ls p /\ I19q ls out p ⟨σ,ls.length⟩
def R19q (ls:List (List T)) (out:List T) (p:List Nat) (σ:State):Prop:=Bnd ls p /\ ∃ tab,St19 ls tab σ /\ TabOk ls out (codeR ls p) tab

theorem c19q (hlen:ls.length <= 1000) (hsum:sumL ls <= 1000000) (hp:prodL ls <= 20000) (hso:sumL ls = out.length) (hsm:∀ l ∈ ls,∀ x ∈ l,x.small /\ SizeOf.sizeOf x < S) {Q:Post} {a:AAct} {σ:State} (h:T19q ls out (P19q ls out) (R19q ls out) (.loop (bodyOf (part19q Tryz.prog))) Q a σ) :
  AWp (EV B w0 G) none (fnTmps Tryz.prog 19) (.loop (bodyOf (part19q Tryz.prog))) Q a σ:=by
 obtain ⟨p,σ0,⟨hb,hI0⟩,hat,hR⟩:=h
 have hpl:=hb.len
 have hsb:=Bnd.sum hb
 have hcl:=codeR_lt hb
 have fin:∀ y:Y19,I19q ls out p y -> (y.k = 0 \/ ¬ (p.sum < sumL ls)) -> R19q ls out p y.σ:=fun y ⟨hk,tab,h1,h2⟩ h3 => by
  refine ⟨hb,tab,h1,TabAt.zero hb h2.1 ?_⟩
  rw [h2.2]
  rcases h3 with h3 | h3
  ·rw [h3,entry_zero (by omega)]
  ·rw [entry_full (by omega)]
 refine awp_loopS (ls19q ls out p (I19q ls out p)) (x0:=⟨σ0,ls.length⟩) (fun y hI => ?_) (fun y hI e a' σ' hne kk => ?_) hI0 hat
 ·obtain ⟨σy,ky⟩:=y
  obtain ⟨hk,tab,hst,htab⟩:=hI
  change ky <= ls.length at hk
  change St19 ls tab σy at hst
  change TabAt ls out p ky tab at htab
  refine wpX_ok (cuts:=cuts19) (L:=fun _ _ _ _ => False) (H19_ok (S:=S) hG) (EV_mixed B w0 G) _ _ _ _ (fun _ _ _ Q a σ k => k.elim) (by kernel_rfl) ((vc19q B w0 G S ls out p (I19q ls out p) ⟨σy,ky⟩).mpr ?_)
  refine bcase_of (fun h => ?_) (fun h => ⟨.inl ?_,rfl,rfl,rfl,rfl,rfl,rfl,.refl _⟩)
  ·have h:(ky:Int) - 1 ≥ 0:=of_decide_eq_true h
   refine bcase_of (fun hs => ?_) (fun hs => ⟨.inr ?_,rfl,rfl,rfl,rfl,rfl,rfl,.refl _⟩)
   ·have hs:=of_decide_eq_true hs
    have hs2:p.sum < out.length:=by omega
    obtain ⟨k,rfl⟩:∃ k,ky = k + 1:=⟨ky - 1,by omega⟩
    have hkl:k < ls.length:=by omega
    have hm:=sumL_mem (List.getElem_mem hkl)
    have e1:Int.toNat (((k + 1:Nat):Int) - 1) = k:=by omega
    have hcell:AV.vptr (AV.cells (List.getD (lsV ls) k AV.undef)) = AV.vptr [slV ls[k]]:=by rw [lsV_get hkl]; rfl
    have hd:=digI (i:=k) hp hb (List.getElem?_eq_getElem hkl) (by omega)
    have w4:IntKind.wrap .i64 ((((k + 1:Nat):Int) - 1) - 1) = ((k:Int) - 1):=by rw [wr_small (by omega) (by omega)]; omega
    have hcp:=prodL_pos (ls.drop (k + 1))
    obtain ⟨⟨gs,ho0⟩,⟨gt,ho1⟩,hnx⟩:=id hst
    have hstep:=entry_step (out:=out) hkl hs2
    have hcand:=cand_some (ls:=ls) (out:=out) (p:=p) (n:=out.length - p.sum - 1) (i:=k) (by omega) (by omega)
    have keep:(cand ls out p (out.length - p.sum - 1) k).isSome = false -> TabAt ls out p k tab:=fun hc => by
     rw [hc] at hstep
     exact ⟨htab.1,by rw [htab.2,hstep]; rfl⟩
    have enter:(cand ls out p (out.length - p.sum - 1) k).isSome = true -> TabAt ls out p k (tab.set (codeR ls p) ((k:Int))):=fun hc => by
     rw [hc] at hstep
     refine ⟨htab.1.set _,?_⟩
     rw [getD_set_eq _ (by rw [htab.1.1]; exact hcl),hstep]; rfl
    have setc:asplice (intsZ tab) ((0 + Int.toNat (codeR ls p:Int)) * 1) [AV.int .i64 (((k + 1:Nat):Int) - 1)] = intsZ (tab.set (codeR ls p) (k:Int)):=by
     rw [idx1,asp1 (by rw [intsZ_len,htab.1.1]; exact hcl),show (((k + 1:Nat):Int) - 1) = (k:Int) by omega,intsZ_set]
    rw [e1]
    have hb1:(0:Int) <= ((k + 1:Nat):Int) - 1 /\ ((k + 1:Nat):Int) - 1 < (ls.length:Int):=⟨by omega,by omega⟩
    have hb2:(0:Int) <= ((k + 1:Nat):Int) - 1 /\ ((k + 1:Nat):Int) - 1 < ((lsV ls).length:Int):=⟨by omega,by rw [lsV_len]; omega⟩
    refine ⟨⟨_,gs⟩,ho0,hb1,⟨intsV (stepsN ls 0),gs⟩,ho0,?_,prodL (ls.drop (k + 1)),?_,?_,hb2,ls[k],hcell,wr_len1 (by omega),hb2,ls[k],hcell,?_⟩
    ·show (0 + k) * 1 < (intsV (stepsN ls 0)).length
     rw [intsV_len,stepsN_len]; omega
    ·show (intsV (stepsN ls 0)).getD ((0 + k) * 1) .undef = _
     rw [show (0 + k) * 1 = k by omega]; exact steps_getD hkl
    ·omega
    rw [hd,w4]
    refine bcase_of (fun h5 => ?_) (fun h5 => ⟨⟨σy,k⟩,⟨⟨by show k <= _; omega,tab,hst,keep ?_⟩,Nat.lt_succ_self k⟩,rfl,rfl,rfl,rfl,rfl,rfl,rfl,rfl,.refl _⟩)
    ·have h5:=of_decide_eq_true h5
     rw [tcellL_length] at h5
     have hkx:p.getD k 0 < ls[k].length:=by omega
     have hxm:=List.getElem_mem hkx
     obtain ⟨hx1,hx2⟩:=hsm _ (List.getElem_mem hkl) _ hxm
     have hgo:goesOn ls out p (out.length - p.sum - 1) k = same ls[k][p.getD k 0] out[p.sum]:=by
      refine goesOn_some (l:=ls[k]) (List.getElem?_eq_getElem hkl) (List.getElem?_eq_getElem hkx) ?_
      rw [show out.length - (out.length - p.sum - 1 + 1) = p.sum by omega]; exact List.getElem?_eq_getElem hs2
     rw [hgo] at hcand
     refine ⟨hb2,ls[k],hcell,⟨by omega,by rw [tcellL_length]; omega⟩,ls[k][p.getD k 0],by rw [Int.toNat_natCast]; exact tcellL_get hkx,⟨by omega,by rw [tcellL_length]; omega⟩,out[p.sum],by rw [Int.toNat_natCast]; exact tcellL_get hs2,ls[k][p.getD k 0],out[p.sum],rfl,⟨hx1,hx2⟩,?_⟩
     have hst':=hst.untok
     obtain ⟨⟨gs',ho0'⟩,⟨gt',ho1'⟩,hnx'⟩:=id hst'
     have stay:(cand ls out p (out.length - p.sum - 1) k).isSome = false -> ∃ x':Y19,(I19q ls out p x' /\ (ls19q ls out p (I19q ls out p)).μ x' < (ls19q ls out p (I19q ls out p)).μ ⟨σy,k + 1⟩) /\ TV.v (AV.int .i64 ((k:Int) - 1)) = TV.v (AV.int .i64 ((x'.k:Int) - 1)) /\
       Rf (TV.v (AV.int .i64 (p.sum:Int))) /\ Rf (TV.v (AV.int .i64 (codeR ls p:Int))) /\ Rf (TV.v (AV.slice 1 (lsV ls) Cap.any)) /\ Rf (TV.v (AV.slice 4 (tcellL out) Cap.any)) /\ Rf (TV.v (AV.rslice 0 0 ls.length)) /\ Rf (TV.v (AV.int .i64 (sumL ls:Int))) /\
       Rf (TV.v (AV.rslice 1 0 (prodL ls))) /\ State.Le ((ls19q ls out p (I19q ls out p)).3 x') σy.untok:=fun hc =>
      ⟨⟨σy.untok,k⟩,⟨⟨by show k <= _; omega,tab,hst',keep hc⟩,Nat.lt_succ_self k⟩,rfl,rfl,rfl,rfl,rfl,rfl,rfl,rfl,.refl _⟩
     have put:(cand ls out p (out.length - p.sum - 1) k).isSome = true -> ∃ x':Y19,(I19q ls out p x' /\ (ls19q ls out p (I19q ls out p)).μ x' < (ls19q ls out p (I19q ls out p)).μ ⟨σy,k + 1⟩) /\ TV.v (AV.int .i64 ((k:Int) - 1)) = TV.v (AV.int .i64 ((x'.k:Int) - 1)) /\
       Rf (TV.v (AV.int .i64 (p.sum:Int))) /\ Rf (TV.v (AV.int .i64 (codeR ls p:Int))) /\ Rf (TV.v (AV.slice 1 (lsV ls) Cap.any)) /\ Rf (TV.v (AV.slice 4 (tcellL out) Cap.any)) /\ Rf (TV.v (AV.rslice 0 0 ls.length)) /\ Rf (TV.v (AV.int .i64 (sumL ls:Int))) /\
       Rf (TV.v (AV.rslice 1 0 (prodL ls))) /\ State.Le ((ls19q ls out p (I19q ls out p)).3 x') (σy.untok.set 1 (.cells (asplice (intsZ tab) ((0 + Int.toNat (codeR ls p:Int)) * 1) [AV.int .i64 (((k + 1:Nat):Int) - 1)]) 3 1 gt')):=fun hc =>
      ⟨⟨σy.untok.set 1 (.cells (intsZ (tab.set (codeR ls p) (k:Int))) 3 1 gt'),k⟩,⟨⟨by show k <= _; omega,_,hst'.set _ gt',enter hc⟩,Nat.lt_succ_self k⟩,rfl,rfl,rfl,rfl,rfl,rfl,rfl,rfl,by rw [setc]; exact .refl _⟩
     have pre:(0:Int) <= (codeR ls p:Int) /\ (codeR ls p:Int) < (prodL ls:Int):=⟨by omega,by omega⟩
     have fits:(0 + Int.toNat (codeR ls p:Int)) * 1 + 1 <= (intsZ tab).length:=by rw [idx1,intsZ_len,htab.1.1]; exact hcl
     refine bcase_of (fun h6 => ?_) (fun h6 => stay (by rw [hcand,h6]; rfl))
     rw [h6,Bool.true_and] at hcand
     have wS:IntKind.wrap .i64 ((p.sum:Int) + 1) = ((p.sum + 1:Nat):Int):=by rw [wr_small (by omega) (by omega)]; omega
     refine bcase_of (fun h7 => ?_) (fun h7 => ?_)
     ·have h7:p.sum + 1 = out.length:=by rw [wS] at h7; simp at h7; omega
      exact ⟨⟨_,gt'⟩,ho1',pre,⟨intsZ tab,gt'⟩,ho1',fits,put (by rw [hcand,decide_eq_true h7]; rfl)⟩
     ·have h7:¬ p.sum + 1 = out.length:=by rw [wS] at h7; simp at h7; omega
      rw [decide_eq_false h7,Bool.false_or] at hcand
      have hbs:Bnd ls (p.set k (p.getD k 0 + 1)):=hb.set (List.getElem?_eq_getElem hkl) (by omega)
      have hcs:=codeR_set hb hkl
      have hcl2:=codeR_lt hbs
      have hv:=htab.1.2 _ hbs (by rw [hcs]; omega)
      have wC:IntKind.wrap .i64 ((codeR ls p:Int) + (prodL (ls.drop (k + 1)):Int)) = (codeR ls (p.set k (p.getD k 0 + 1)):Int):=by
       rw [wr_small (by omega) (by omega),hcs]; omega
      refine ⟨⟨_,gs'⟩,ho0',hb1,⟨intsV (stepsN ls 0),gs'⟩,ho0',?_,prodL (ls.drop (k + 1)),?_,?_⟩
      ·show (0 + k) * 1 < (intsV (stepsN ls 0)).length
       rw [intsV_len,stepsN_len]; omega
      ·show (intsV (stepsN ls 0)).getD ((0 + k) * 1) .undef = _
       rw [show (0 + k) * 1 = k by omega]; exact steps_getD hkl
      rw [wC]
      refine ⟨⟨_,gt'⟩,ho1',⟨by omega,by omega⟩,⟨intsZ tab,gt'⟩,ho1',?_,tab.getD (codeR ls (p.set k (p.getD k 0 + 1))) 0,?_,?_⟩
      ·rw [idx1]; show _ < (intsZ tab).length; rw [intsZ_len,htab.1.1]; exact hcl2
      ·rw [idx1]; exact intsZ_getD (by rw [htab.1.1]; exact hcl2)
      rw [hv]
      refine bcase_of (fun h8 => ?_) (fun h8 => stay (by rw [hcand]; exact h8))
      exact ⟨⟨_,gt'⟩,ho1',pre,⟨intsZ tab,gt'⟩,ho1',fits,put (by rw [hcand]; exact h8)⟩
    ·have h5:=of_decide_eq_false h5
     rw [tcellL_length] at h5
     rw [hcand,goesOn_none (l:=ls[k]) (List.getElem?_eq_getElem hkl) (by omega)]; rfl
   ·have hs:=of_decide_eq_false hs
    omega
  ·have h:¬ (ky:Int) - 1 ≥ 0:=of_decide_eq_false h
   show ky = 0
   omega
 ·cases e with
  | exit j =>
   match j,kk with
   | 6,kk => exact ⟨_,_,(atF_ok kk.2).1,(atF_ok kk.2).2,hR _ (fin y hI kk.1)⟩
  | normal => exact absurd rfl hne
  | _ => exact kk.elim
end
end Go.V
