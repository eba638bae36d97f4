import Derived.Test.YtgnjidopnplbbaaGreatDoorG37
/- The search of Check: its parts. -/
set_option maxRecDepth 1000000
set_option linter.unusedVariables false
set_option linter.unusedSimpArgs false
set_option linter.unusedSectionVars false
namespace Go.V
open Go Go.Proofs

theorem asp1 {cs:List AV} {k:Nat} (h:k < cs.length) (v:AV):asplice cs k [v] = cs.set k v:=by
 unfold asplice
 rw [List.set_eq_take_append_cons_drop,if_pos h]
 simp
theorem intsV_set (l:List Nat) (i a:Nat):(intsV l).set i (.int .i64 (a:Int)) = intsV (l.set i a):=by
 unfold intsV; rw [List.map_set]
theorem boolsV_set (l:List Bool) (i:Nat) (a:Bool):(boolsV l).set i (.bool a) = boolsV (l.set i a):=by
 unfold boolsV; rw [List.map_set]
theorem boolsV_len (l:List Bool):(boolsV l).length = l.length:=List.length_map _
theorem boolsV_get {l:List Bool} {i:Nat} (h:i < l.length):(boolsV l).getD i .undef = .bool (l.getD i false):=by
 unfold boolsV
 rw [List.getD_eq_getElem?_getD,List.getElem?_map,List.getElem?_eq_getElem h,List.getD_eq_getElem?_getD,List.getElem?_eq_getElem h]; rfl
theorem intsV_getD {l:List Nat} {i:Nat} (h:i < l.length):(intsV l).getD i .undef = .int .i64 (l.getD i 0:Int):=by
 rw [intsV_get h,List.getD_eq_getElem?_getD,List.getElem?_eq_getElem h]; rfl

theorem NoTok.up {c:Heap KR} (h:NoTok c) {r:KR} {id:Nat} {cs:List AV} {e sz:Nat} {g:Bool}:NoTok (hup c r (some (id,.cells cs e sz g))):=fun s i o hs => by
 unfold hup at hs
 split at hs
 ·cases hs; rfl
 ·exact h s i o hs
section
variable {f:FI} {ls:List (List T)} {out:List T} {p order:List Nat} {bad:List Bool} {c:Heap KR}

theorem FRep.setA (h:FRep f ls out p order bad c) (p':List Nat) (g:Bool):FRep f ls out p' order bad (hup c .ao (some (f.ao,.cells (intsV p') 3 1 g))) where
 tok:=h.tok.up
 hls:=by obtain ⟨g,k⟩:=h.hls; exact ⟨g,by rw [hup_ne (by simp),k]⟩
 hout:=by obtain ⟨g,k⟩:=h.hout; exact ⟨g,by rw [hup_ne (by simp),k]⟩
 hbc:=by obtain ⟨g,k⟩:=h.hbc; exact ⟨g,by rw [hup_ne (by simp),k]⟩
 hbo:=by obtain ⟨g,k⟩:=h.hbo; exact ⟨g,by rw [hup_ne (by simp),k]⟩
 hac:=by obtain ⟨g,k⟩:=h.hac; exact ⟨g,by rw [hup_ne (by simp),k]⟩
 hao:=⟨g,hup_self⟩
 hfc:=by obtain ⟨g,k⟩:=h.hfc; exact ⟨g,by rw [hup_ne (by simp),k]⟩
 hoc:=by
  obtain ⟨v,g,k1,k2⟩:=h.hoc
  refine ⟨v,g,by rw [hup_ne (by simp),k1],?_⟩
  rcases k2 with k | ⟨ov,cs,g',k3,k4,k5⟩
  ·exact .inl k
  ·exact .inr ⟨ov,cs,g',k3,by rw [hup_ne (by simp),k4],k5⟩
theorem FRep.setB (h:FRep f ls out p order bad c) (bad':List Bool) (g:Bool):FRep f ls out p order bad' (hup c .bo (some (f.bo,.cells (boolsV bad') 4 1 g))) where
 tok:=h.tok.up
 hls:=by obtain ⟨g,k⟩:=h.hls; exact ⟨g,by rw [hup_ne (by simp),k]⟩
 hout:=by obtain ⟨g,k⟩:=h.hout; exact ⟨g,by rw [hup_ne (by simp),k]⟩
 hbc:=by obtain ⟨g,k⟩:=h.hbc; exact ⟨g,by rw [hup_ne (by simp),k]⟩
 hbo:=⟨g,hup_self⟩
 hac:=by obtain ⟨g,k⟩:=h.hac; exact ⟨g,by rw [hup_ne (by simp),k]⟩
 hao:=by obtain ⟨g,k⟩:=h.hao; exact ⟨g,by rw [hup_ne (by simp),k]⟩
 hfc:=by obtain ⟨g,k⟩:=h.hfc; exact ⟨g,by rw [hup_ne (by simp),k]⟩
 hoc:=by
  obtain ⟨v,g,k1,k2⟩:=h.hoc
  refine ⟨v,g,by rw [hup_ne (by simp),k1],?_⟩
  rcases k2 with k | ⟨ov,cs,g',k3,k4,k5⟩
  ·exact .inl k
  ·exact .inr ⟨ov,cs,g',k3,by rw [hup_ne (by simp),k4],k5⟩
theorem FRep.setO (h:FRep f ls out p order bad c) {order':List Nat} {v:AV} (g:Bool) (hv:OrdV c v order'):FRep f ls out p order' bad (hup c .oc (some (f.oc,.cells [v] 26 1 g))) where
 tok:=h.tok.up
 hls:=by obtain ⟨g,k⟩:=h.hls; exact ⟨g,by rw [hup_ne (by simp),k]⟩
 hout:=by obtain ⟨g,k⟩:=h.hout; exact ⟨g,by rw [hup_ne (by simp),k]⟩
 hbc:=by obtain ⟨g,k⟩:=h.hbc; exact ⟨g,by rw [hup_ne (by simp),k]⟩
 hbo:=by obtain ⟨g,k⟩:=h.hbo; exact ⟨g,by rw [hup_ne (by simp),k]⟩
 hac:=by obtain ⟨g,k⟩:=h.hac; exact ⟨g,by rw [hup_ne (by simp),k]⟩
 hao:=by obtain ⟨g,k⟩:=h.hao; exact ⟨g,by rw [hup_ne (by simp),k]⟩
 hfc:=by obtain ⟨g,k⟩:=h.hfc; exact ⟨g,by rw [hup_ne (by simp),k]⟩
 hoc:=by
  refine ⟨v,g,hup_self,?_⟩
  rcases hv with k | ⟨ov,cs,g',k3,k4,k5⟩
  ·exact .inl k
  ·exact .inr ⟨ov,cs,g',k3,by rw [hup_ne (by simp),k4],k5⟩
theorem FRep.setV (h:FRep f ls out p order bad c) {order':List Nat} {id:Nat} {cs:List AV} (g g':Bool) (hl:order'.length <= cs.length) (ht:cs.take order'.length = intsV order') :
  FRep f ls out p order' bad (hup (hup c .ov (some (id,.cells cs 3 1 g'))) .oc (some (f.oc,.cells [.rslice id 0 order'.length] 26 1 g))) where
 tok:=h.tok.up.up
 hls:=by obtain ⟨g,k⟩:=h.hls; exact ⟨g,by rw [hup_ne (by simp),hup_ne (by simp),k]⟩
 hout:=by obtain ⟨g,k⟩:=h.hout; exact ⟨g,by rw [hup_ne (by simp),hup_ne (by simp),k]⟩
 hbc:=by obtain ⟨g,k⟩:=h.hbc; exact ⟨g,by rw [hup_ne (by simp),hup_ne (by simp),k]⟩
 hbo:=by obtain ⟨g,k⟩:=h.hbo; exact ⟨g,by rw [hup_ne (by simp),hup_ne (by simp),k]⟩
 hac:=by obtain ⟨g,k⟩:=h.hac; exact ⟨g,by rw [hup_ne (by simp),hup_ne (by simp),k]⟩
 hao:=by obtain ⟨g,k⟩:=h.hao; exact ⟨g,by rw [hup_ne (by simp),hup_ne (by simp),k]⟩
 hfc:=by obtain ⟨g,k⟩:=h.hfc; exact ⟨g,by rw [hup_ne (by simp),hup_ne (by simp),k]⟩
 hoc:=⟨_,g,hup_self,.inr ⟨id,cs,g',rfl,by rw [hup_ne (by simp),hup_self],hl,ht⟩⟩

def FS (f:FI) (ls:List (List T)) (out:List T) (p order:List Nat) (σ:State):Prop:=∃ (bad:List Bool) (c:Heap KR),At c σ /\ FRep f ls out p order bad c /\ BadOk ls out bad
structure Took (ls:List (List T)) (out:List T) (p order:List Nat) (n i w:Nat) (l:List T):Prop where
 hi:ls[i]? = some l
 hw:w = prodL (ls.take i)
 hg:goesOn ls out p n i = true
 hn:∀ j < i,cand ls out p n j = none
structure Call (ls:List (List T)) (out:List T) (N s:Nat) (p order:List Nat) (n:Nat):Prop where
 hb:Bnd ls p
 ho:order.length = p.sum
 hn:n + 1 = out.length - p.sum
 hN:n + 1 < N + 1
 hs:s = codeL ls p
 hp:prodL ls <= 20000
 hlen:ls.length <= 8
 hout:out.length <= 1000000

variable {B:Nat} {w0:World} {G:Nat -> AV} {N s n i w S:Nat} {l:List T}

theorem getD_sum:∀ (p:List Nat) (i:Nat),p.getD i 0 <= p.sum
 | [],i => by simp
 | a :: p,0 => by simp
 | a :: p,i + 1 => by
  have:=getD_sum p i
  simp only [List.getD_cons_succ,List.sum_cons] at this ⊢
  omega
theorem idx1 (i:Nat):(0 + Int.toNat (i:Int)) * 1 = i:=by simp
theorem Took.lt (h:Took ls out p order n i w l):i < ls.length:=by
 rcases Nat.lt_or_ge i ls.length with k | k
 ·exact k
 ·have:=h.hi
  rw [List.getElem?_eq_none k] at this; cases this
theorem getElem_lt {ls:List (List T)} {i:Nat} {l:List T} (h:ls[i]? = some l):i < ls.length:=by
 rcases Nat.lt_or_ge i ls.length with k | k
 ·exact k
 ·rw [List.getElem?_eq_none k] at h; cases h

theorem c61d (hc:Call ls out N s p order n) (ht:Took ls out p order n i w l) {σ:State} (hS:FS f ls out (p.set i (p.getD i 0 + 1)) (order ++ [i]) σ) :
  wpX cuts61 (EV B w0 G) (H61 (EV B w0 G) f ls out S N) (fun _ _ _ _ => False) (annA 61) (N61 f ls out) (part61d Tryz.prog) (P61 (F61b f ls s i w l) (fun σ' => cand ls out p n i = none /\ FS f ls out p order σ') (FYes f ls out p order)) (frm (F61b f ls s i w l) []) σ:=by
 obtain ⟨bad,c,h,hF,hbad⟩:=hS
 have hi:=ht.lt
 have hil:i < p.length:=by rw [hc.hb.len]; exact hi
 have hlt:=goesOn_lt ht.hi ht.hg
 have hb2:Bnd ls (p.set i (p.getD i 0 + 1)):=hc.hb.set ht.hi hlt
 have hsum:=sum_set hil
 have hcode:=codeL_set hc.hb hi
 have hcl:=codeL_lt hb2
 have hn:=hc.hn
 have hN:=hc.hN
 have hp:=hc.hp
 obtain ⟨gf,hfc⟩:=hF.hfc
 have hn2:out.length - (p.set i (p.getD i 0 + 1)).sum = n:=by rw [hsum]; omega
 refine (vc61d B w0 G f ls out S N s i w l _ _ σ).mpr ⟨gf,h.obj hfc,Nat.zero_lt_one,codeL ls (p.set i (p.getD i 0 + 1)),p.set i (p.getD i 0 + 1),order ++ [i],bad,?_,⟨⟨c,h,hF⟩,hb2,?_,?_,?_,rfl,hbad⟩,fun σ' hY => ⟨σ',?_,rfl,.refl _⟩,fun σ' hN' => ?_⟩
 ·have:IntKind.wrap .i64 ((s:Int) + (w:Int)) = ((codeL ls (p.set i (p.getD i 0 + 1)):Nat):Int):=by
   rw [hcode,<-ht.hw,<-hc.hs] at hcl
   rw [hcode,<-ht.hw,<-hc.hs,wr_small (by omega) (by omega)]; omega
  rw [this]
 ·rw [List.length_append,hc.ho,hsum]; rfl
 ·omega
 ·omega
 ·obtain ⟨o,p',bad',c',h1,h2,h3⟩:=hY
  rw [hn2] at h1
  refine ⟨i :: o,p',bad',c',?_,h2,?_⟩
  ·rw [<-hn]; exact mgF_some hi ht.hn ht.hg h1
  ·rw [List.append_assoc] at h3; exact h3
 ·obtain ⟨bad',c',h1,h2,h3,h4⟩:=hN'
  rw [hn2] at h1
  obtain ⟨v,g,hoc,hv⟩:=h3.hoc
  rcases hv with ⟨_,e⟩ | ⟨ov,cs,gv,rfl,hov,hle,htk⟩
  ·simp at e
  have hlo:(order ++ [i]).length = order.length + 1:=by simp
  rw [hlo] at hoc hle htk
  have hom:order.length <= 1000000:=by rw [hc.ho]; have:=hc.hout; omega
  have hwr:IntKind.wrap .i64 (((order.length + 1:Nat):Int) - 1) = (order.length:Int):=by rw [wr_small (by omega) (by omega)]; omega
  have htk2:cs.take order.length = intsV order:=by
   have:=congrArg (List.take order.length) htk
   rw [List.take_take,Nat.min_eq_left (by omega),intsV_append,List.take_append_of_le_length (by rw [intsV_len]; omega)] at this
   rw [this,show order.length = (intsV order).length from (intsV_len _).symm,List.take_length]
  refine ⟨⟨[.rslice ov 0 (order.length + 1)],g⟩,h2.obj hoc,Nat.zero_lt_one,⟨ov,order.length + 1⟩,rfl,⟨[.rslice ov 0 (order.length + 1)],g⟩,h2.obj hoc,Nat.zero_lt_one,⟨ov,order.length + 1⟩,rfl,⟨cs,gv⟩,h2.obj hov,?_⟩
  dsimp only
  rw [hwr,idx1]
  have h5:=h2.set hoc (.cells [.rslice ov 0 order.length] 26 1 g)
  have hF5:=h3.setO g (order':=order) (v:=.rslice ov 0 order.length) (.inr ⟨ov,cs,gv,rfl,hov,by omega,htk2⟩)
  obtain ⟨ga,hac⟩:=hF5.hac
  obtain ⟨gi,hao⟩:=hF5.hao
  have hp2l:(p.set i (p.getD i 0 + 1)).length = p.length:=List.length_set
  have hget:(p.set i (p.getD i 0 + 1)).getD i 0 = p.getD i 0 + 1:=by
   rw [List.getD_eq_getElem?_getD,List.getElem?_set_self hil]; rfl
  have hback:(p.set i (p.getD i 0 + 1)).set i (p.getD i 0) = p:=by
   rw [List.set_set]
   apply List.ext_getElem?
   intro k
   by_cases hk:k = i
   ·subst hk; rw [List.getElem?_set_self hil,List.getD_eq_getElem?_getD,List.getElem?_eq_getElem hil]; rfl
   ·rw [List.getElem?_set_ne (Ne.symm hk)]
  have hpi:p.getD i 0 <= 1000000:=by
   have h6:=hb2.sum
   have h7:=hsum
   have:p.getD i 0 <= p.sum:=getD_sum p i
   have:=hc.hout
   omega
  have hwr2:IntKind.wrap .i64 (((p.getD i 0 + 1:Nat):Int) - 1) = ((p.getD i 0:Nat):Int):=by rw [wr_small (by omega) (by omega)]; omega
  have hlp:i < (intsV (p.set i (p.getD i 0 + 1))).length:=by rw [intsV_len,hp2l]; exact hil
  refine ⟨⟨by omega,by omega⟩,⟨[.rslice ov 0 (order.length + 1)],g⟩,h2.obj hoc,Nat.le_refl _,ga,h5.obj hac,Nat.zero_lt_one,⟨intsV (p.set i (p.getD i 0 + 1)),gi⟩,h5.obj hao,⟨by omega,by omega⟩,⟨intsV (p.set i (p.getD i 0 + 1)),gi⟩,h5.obj hao,hlp,p.getD i 0 + 1,?_,⟨intsV (p.set i (p.getD i 0 + 1)),gi⟩,h5.obj hao,⟨by omega,by omega⟩,⟨intsV (p.set i (p.getD i 0 + 1)),gi⟩,h5.obj hao,hlp,_,⟨?_,?_⟩,rfl,rfl,rfl,rfl,rfl,rfl,rfl,rfl,rfl,rfl,rfl,rfl,rfl,.refl _⟩
  ·dsimp only
   rw [intsV_getD (by rw [hp2l]; exact hil),hget]
  ·unfold cand; rw [ht.hg,h1]; rfl
  ·dsimp only
   rw [hwr2,asp1 hlp,intsV_set,hback]
   exact ⟨bad',_,h5.set hao _,hF5.setA p gi,h4⟩
end
end Go.V
/- The search of Check: its loop, the function. -/
namespace Go.V
open Go Go.Proofs

section
variable {f:FI} {ls:List (List T)} {out:List T} {p order:List Nat}
variable {B:Nat} {w0:World} {G:Nat -> AV} {N s n i w S:Nat} {l:List T}

def P61a (f:FI) (ls:List (List T)) (out:List T) (p order:List Nat) (i w:Nat) (l:List T) (i' w':Nat) (l':List T) (σ:State):Prop:=i' = i /\ w' = w /\ l' = l /\ FS f ls out p order σ
def R61a (f:FI) (ls:List (List T)) (out:List T) (p order:List Nat) (n i w:Nat) (l:List T) (i' w':Nat) (l':List T) (σ:State):Prop:=i' = i /\ w' = w /\ l' = l /\ cand ls out p n i = none /\ FS f ls out p order σ

theorem c61c (hc:Call ls out N s p order n) (ht:Took ls out p order n i w l) {σ:State} (hS:FS f ls out (p.set i (p.getD i 0 + 1)) order σ) :
  wpX cuts61 (EV B w0 G) (H61 (EV B w0 G) f ls out S N) (handL [(12,T61p f ls s (P61a f ls out (p.set i (p.getD i 0 + 1)) (order ++ [i]) i w l) (R61a f ls out p order n i w l) (FYes f ls out p order))]) (annA 61) (N61 f ls out) (part61c Tryz.prog)
   (P61 (F61b f ls s i w l) (fun σ' => cand ls out p n i = none /\ FS f ls out p order σ') (FYes f ls out p order)) (frm (F61b f ls s i w l) []) σ:=by
 obtain ⟨bad,c,h,hF,hbad⟩:=hS
 obtain ⟨v,g,hoc,hv⟩:=hF.hoc
 have hom:order.length <= 1000000:=by rw [hc.ho]; have:=hc.hout; have:=hc.hn; omega
 refine (vc61c B w0 G f ls out S N s i w l _ _ _ _ σ).mpr ⟨⟨[v],g⟩,h.obj hoc,Nat.zero_lt_one,?_⟩
 rcases hv with ⟨rfl,rfl⟩ | ⟨ov,cs,gv,rfl,hov,hle,htk⟩
 ·refine .inl ⟨rfl,⟨by omega,by omega⟩,?_⟩
  have h1:=h.new .ov (.cells [.int .i64 (i:Int)] 3 1 true)
  have o1:hup c .ov (some (σ.next,.cells [.int .i64 (i:Int)] 3 1 true)) .oc = some (f.oc,.cells [.nilslice] 26 1 g):=by rw [hup_ne (by simp),hoc]
  have h2:=h1.set o1 (.cells [.rslice σ.next 0 1] 26 1 g)
  have hF2:=hF.setV (order':=[] ++ [i]) (id:=σ.next) (cs:=[.int .i64 (i:Int)]) g true (Nat.le_refl _) rfl
  refine ⟨⟨[.nilslice],g⟩,h1.obj o1,Nat.le_refl _,i,w,l,_,⟨rfl,rfl,rfl,bad,_,h2,hF2,hbad⟩,⟨rfl,rfl,rfl,rfl,rfl,rfl,rfl,rfl,rfl,rfl,rfl,rfl,rfl,.refl _⟩,fun σ' hR => ?_,fun σ' hY => ⟨σ',hY,rfl,.refl _⟩⟩
  obtain ⟨_,_,_,h3,h4⟩:=hR
  exact ⟨σ',⟨h3,h4⟩,rfl,rfl,rfl,rfl,rfl,rfl,rfl,rfl,rfl,rfl,rfl,rfl,rfl,.refl _⟩
 ·refine .inr ⟨⟨ov,order.length⟩,rfl,⟨cs,gv⟩,h.obj hov,⟨rfl,⟨by show (order.length + 1) * 8 <= _; omega,by show order.length + 1 <= _; omega⟩,by show order.length * 1 <= cs.length; omega⟩,?_⟩
  have h1:=h.grow hov (.cells (cs.take (order.length * 1) ++ [.int .i64 (i:Int)]) 3 1 true)
  have o1:hup c .ov (some (σ.next,.cells (cs.take (order.length * 1) ++ [.int .i64 (i:Int)]) 3 1 true)) .oc = some (f.oc,.cells [.rslice ov 0 order.length] 26 1 g):=by rw [hup_ne (by simp),hoc]
  have h2:=h1.set o1 (.cells [.rslice σ.next 0 (order.length + 1)] 26 1 g)
  have e1:cs.take (order.length * 1) ++ [AV.int .i64 (i:Int)] = intsV (order ++ [i]):=by rw [Nat.mul_one,htk,intsV_append]; rfl
  have hF2:=hF.setV (order':=order ++ [i]) (id:=σ.next) (cs:=cs.take (order.length * 1) ++ [.int .i64 (i:Int)]) g true (by rw [e1,intsV_len]; exact Nat.le_refl _) (by rw [e1]; conv => lhs; rw [<-intsV_len (order ++ [i]),List.take_length])
  have hlo:(order ++ [i]).length = order.length + 1:=by simp
  rw [hlo] at hF2
  refine ⟨⟨[.rslice ov 0 order.length],g⟩,h1.obj o1,Nat.le_refl _,i,w,l,_,⟨rfl,rfl,rfl,bad,_,h2,hF2,hbad⟩,⟨rfl,rfl,rfl,rfl,rfl,rfl,rfl,rfl,rfl,rfl,rfl,rfl,rfl,.refl _⟩,fun σ' hR => ?_,fun σ' hY => ⟨σ',hY,rfl,.refl _⟩⟩
  obtain ⟨_,_,_,h3,h4⟩:=hR
  exact ⟨σ',⟨h3,h4⟩,rfl,rfl,rfl,rfl,rfl,rfl,rfl,rfl,rfl,rfl,rfl,rfl,rfl,.refl _⟩

theorem awp61d (hH:HOk1 (EV B w0 G) (H61 (EV B w0 G) f ls out S N)) (hc:Call ls out N s p order n) (ht:Took ls out p order n i w l) (Q:Post) (a:AAct) (σ:State)
  (h:T61p f ls s (P61a f ls out (p.set i (p.getD i 0 + 1)) (order ++ [i]) i w l) (R61a f ls out p order n i w l) (FYes f ls out p order) (part61d Tryz.prog) Q a σ):AWp (EV B w0 G) none (fnTmps Tryz.prog 61) (part61d Tryz.prog) Q a σ:=by
 obtain ⟨i',w',l',σ0,⟨rfl,rfl,rfl,hS⟩,hat,h1,h2⟩:=h
 refine .post_wk (.pre_wk (atF_ok hat).1 (atF_ok hat).2 ((wpX_ok (cuts:=cuts61) hH (EV_mixed B w0 G) _ _ _ _ (fun l _ _ Q a σ k => k.elim) (by kernel_rfl) (c61d hc ht hS)).mono fun e a σ k => ?_))
 cases e with
 | normal =>
  obtain ⟨σ1,⟨k1,k2⟩,k3⟩:=k
  exact ⟨_,_,(atF_ok k3).1,(atF_ok k3).2,h1 _ ⟨rfl,rfl,rfl,k1,k2⟩⟩
 | ret =>
  obtain ⟨σ1,k1,k3⟩:=k
  exact ⟨_,_,(atF_ok k3).1,(atF_ok k3).2,h2 _ k1⟩
 | _ => exact k.elim
theorem awp61c (hH:HOk1 (EV B w0 G) (H61 (EV B w0 G) f ls out S N)) (hc:Call ls out N s p order n) (ht:Took ls out p order n i w l) (Q:Post) (a:AAct) (σ:State)
  (h:T61p f ls s (P61a f ls out (p.set i (p.getD i 0 + 1)) order i w l) (R61a f ls out p order n i w l) (FYes f ls out p order) (part61c Tryz.prog) Q a σ):AWp (EV B w0 G) none (fnTmps Tryz.prog 61) (part61c Tryz.prog) Q a σ:=by
 obtain ⟨i',w',l',σ0,⟨rfl,rfl,rfl,hS⟩,hat,h1,h2⟩:=h
 refine .post_wk (.pre_wk (atF_ok hat).1 (atF_ok hat).2 ((wpX_ok (cuts:=cuts61) hH (EV_mixed B w0 G) _ _ _ _ (fun lp hp _ Q a σ k => ?_) (by kernel_rfl) (c61c hc ht hS)).mono fun e a σ k => ?_))
 ·rw [partsIn_61c] at hp
  simp only [List.mem_cons,List.not_mem_nil,or_false] at hp
  subst hp
  exact handL_ok (P:=fun c Q a σ => AWp (EV B w0 G) none (fnTmps Tryz.prog 61) c Q a σ) k (fun _ k => awp61d hH hc ht Q a σ k) (fun k => k.elim)
 cases e with
 | normal =>
  obtain ⟨σ1,⟨k1,k2⟩,k3⟩:=k
  exact ⟨_,_,(atF_ok k3).1,(atF_ok k3).2,h1 _ ⟨rfl,rfl,rfl,k1,k2⟩⟩
 | ret =>
  obtain ⟨σ1,k1,k3⟩:=k
  exact ⟨_,_,(atF_ok k3).1,(atF_ok k3).2,h2 _ k1⟩
 | _ => exact k.elim


theorem c61l (hc:Call ls out N s p order n) (hsm:∀ l ∈ ls,∀ x ∈ l,x.small /\ SizeOf.sizeOf x < S) (hH:HOk1 (EV B w0 G) (H61 (EV B w0 G) f ls out S N)) (y:Y61)
  (hI:y.i <= ls.length /\ y.w = prodL (ls.take y.i) /\ FS f ls out p order y.σ /\ ∀ j < y.i,cand ls out p n j = none) :
  AWp (EV B w0 G) none (fnTmps Tryz.prog 61) (bodyOf (fnPart Tryz.prog cuts61 61 0)) ((ls61 f ls s (fun y => y.i <= ls.length /\ y.w = prodL (ls.take y.i) /\ FS f ls out p order y.σ /\ ∀ j < y.i,cand ls out p n j = none) (FYes f ls out p order)).post y) (frm (F61 f ls s y) []) y.σ:=by
 obtain ⟨hi,hw,⟨bad,c,h,hF,hbad⟩,hn⟩:=hI
 by_cases hk:y.i < ls.length
 ·obtain ⟨l,hl⟩:∃ l,ls[y.i]? = some l:=⟨_,List.getElem?_eq_getElem hk⟩
  have hlm:l ∈ ls:=List.mem_of_getElem? hl
  have hil:y.i < p.length:=by rw [hc.hb.len]; exact hk
  have hpl:=hc.hb.le hl
  have hpt:=prodL_take hl
  have hptl:=prodL_take_le ls (y.i + 1)
  have hp:=hc.hp
  have hlen:=hc.hlen
  have hout:=hc.hout
  have hnn:=hc.hn
  have hll:l.length + 1 <= prodL (ls.take (y.i + 1)):=by rw [hpt]; exact Nat.le_mul_of_pos_left _ (prodL_pos _)
  have hw1:IntKind.wrap .i64 ((y.i:Int) + 1) = ((y.i + 1:Nat):Int):=by rw [wr_small (by omega) (by omega)]; omega
  have hw2:IntKind.wrap .i64 ((y.w:Int) * (IntKind.wrap .i64 (((tcellL l).length:Int) + 1))) = ((prodL (ls.take (y.i + 1)):Nat):Int):=by
   rw [tcellL_length,wr_small (n:=(l.length:Int) + 1) (by omega) (by omega),hw]
   have:((prodL (ls.take y.i):Nat):Int) * ((l.length:Int) + 1) = ((prodL (ls.take (y.i + 1)):Nat):Int):=by rw [hpt]; simp
   rw [this,wr_small (by omega) (by omega)]
  have hI2:∀ σ':State,FS f ls out p order σ' -> cand ls out p n y.i = none -> (y.i + 1 <= ls.length /\ prodL (ls.take (y.i + 1)) = prodL (ls.take (y.i + 1)) /\ FS f ls out p order σ' /\ ∀ j < y.i + 1,cand ls out p n j = none):=fun σ' h1 h2 =>
   ⟨hk,rfl,h1,fun j hj => by
    by_cases e:j = y.i
    ·rw [e]; exact h2
    ·exact hn j (by omega)⟩
  have hμ:ls.length - (y.i + 1) < ls.length - y.i:=by omega
  obtain ⟨ga,hac⟩:=hF.hac
  obtain ⟨gi,hao⟩:=hF.hao
  obtain ⟨go,hou⟩:=hF.hout
  obtain ⟨v,g,hoc,hv⟩:=hF.hoc
  have hcl:y.i < (intsV p).length:=by rw [intsV_len]; exact hil
  have hget:(intsV p).getD y.i .undef = .int .i64 ((p.getD y.i 0:Nat):Int):=intsV_getD hil
  have hidx:(intsV p).getD ((0 + Int.toNat (y.i:Int)) * 1) .undef = .int .i64 ((p.getD y.i 0:Nat):Int):=by rw [idx1]; exact hget
  have hrng:(0:Int) <= (y.i:Int) /\ (y.i:Int) < (ls.length:Int):=⟨by omega,by omega⟩
  have hcl':(0 + Int.toNat (y.i:Int)) * 1 < (intsV p).length:=by rw [idx1]; exact hcl
  -- what the call of Same says
  have hut:=h.untok hF.tok
  have hpi:p.getD y.i 0 <= 20000:=by omega
  have hwp:IntKind.wrap .i64 (((p.getD y.i 0:Nat):Int) + 1) = ((p.getD y.i 0 + 1:Nat):Int):=by rw [wr_small (by omega) (by omega)]; omega
  refine wpX_ok (cuts:=cuts61) (L:=handL [(11,T61p f ls s (fun i w l σ' => Took ls out p order n i w l /\ i = y.i /\ FS f ls out (p.set i (p.getD i 0 + 1)) order σ') (fun i w l σ' => i = y.i /\ w = y.w /\ ls[y.i]? = some l /\ cand ls out p n y.i = none /\ FS f ls out p order σ') (FYes f ls out p order))])
   hH (EV_mixed B w0 G) _ _ _ _ (fun lp hp _ Q a σ k => ?_) (by kernel_rfl) ((vc61l B w0 G f ls out S N s _ _ _ _ y).mpr (bcase_of (fun hb => ?_) (fun hb => ?_)))
  ·have hp:lp ∈ subParts cuts61 (fnPart Tryz.prog cuts61 61 0):=hp
   rw [subParts_61] at hp
   simp only [List.mem_cons,List.not_mem_nil,or_false] at hp
   subst hp
   refine handL_ok (P:=fun c Q a σ => AWp (EV B w0 G) none (fnTmps Tryz.prog 61) c Q a σ) k (fun _ k => ?_) (fun k => k.elim)
   obtain ⟨i',w',l',σ0,⟨ht,rfl,hS⟩,hat,h1,h2⟩:=k
   exact awp61c hH hc ht Q a σ ⟨y.i,w',l',σ0,⟨rfl,rfl,rfl,hS⟩,hat,fun σ' hR => h1 σ' ⟨hR.1,by rw [hR.2.1,ht.hw,hw],by rw [hR.2.2.1]; exact ht.hi,hR.2.2.2⟩,h2⟩
  ·refine ⟨⟨by omega,of_decide_eq_true hb⟩,l,?_,ga,h.obj hac,Nat.zero_lt_one,⟨intsV p,gi⟩,h.obj hao,hrng,⟨intsV p,gi⟩,h.obj hao,hcl',p.getD y.i 0,hidx,bcase_of (fun hlt => ?_) (fun hlt => ?_)⟩
   ·rw [Int.toNat_natCast,lsV_get hk]
    rw [List.getElem?_eq_getElem hk] at hl
    cases hl; rfl
   ·have hlt:p.getD y.i 0 < l.length:=by
     have:=of_decide_eq_true hlt
     rw [tcellL_length] at this; omega
    have hx:=List.getElem?_eq_getElem hlt
    have hxm:=List.getElem_mem hlt
    have hol:order.length < out.length:=by rw [hc.ho]; omega
    have hy:out[out.length - (n + 1)]? = some out[order.length]:=by
     rw [show out.length - (n + 1) = order.length by rw [hc.ho]; omega,List.getElem?_eq_getElem hol]
    have hgo:=goesOn_some (n:=n) hl hx hy
    refine ⟨ga,h.obj hac,Nat.zero_lt_one,⟨intsV p,gi⟩,h.obj hao,hrng,⟨intsV p,gi⟩,h.obj hao,hcl',p.getD y.i 0,hidx,⟨by omega,by rw [tcellL_length]; omega⟩,l[p.getD y.i 0],?_,go,h.obj hou,Nat.zero_lt_one,⟨[v],g⟩,h.obj hoc,Nat.zero_lt_one,?_⟩
    ·rw [Int.toNat_natCast]; exact tcellL_get hlt
    ·have took:same l[p.getD y.i 0] out[order.length] = true -> Took ls out p order n y.i y.w l:=fun e => ⟨hl,hw,by rw [hgo,e],hn⟩
     have left:same l[p.getD y.i 0] out[order.length] = false -> cand ls out p n y.i = none:=fun e => by unfold cand; rw [hgo,e]
     have h6:=hut.set hao (.cells (intsV (p.set y.i (p.getD y.i 0 + 1))) 3 1 gi)
     have hF6:=hF.setA (p.set y.i (p.getD y.i 0 + 1)) gi
     have hspl:asplice (intsV p) ((0 + Int.toNat (y.i:Int)) * 1) [.int .i64 (IntKind.wrap .i64 (((p.getD y.i 0:Nat):Int) + 1))] = intsV (p.set y.i (p.getD y.i 0 + 1)):=by
      rw [idx1,hwp,asp1 hcl,intsV_set]
     rcases hv with ⟨rfl,rfl⟩ | ⟨ov,cs,gv,rfl,hov,hle,htk⟩
     ·refine .inl ⟨rfl,⟨by omega,by rw [tcellL_length]; have:0 < out.length:=hol; omega⟩,out[0]'hol,tcellL_get hol,l[p.getD y.i 0],out[0]'hol,rfl,hsm l hlm _ hxm,bcase_of (fun e => ?_) (fun e => ?_)⟩
      ·refine ⟨ga,hut.obj hac,Nat.zero_lt_one,⟨intsV p,gi⟩,hut.obj hao,hrng,⟨intsV p,gi⟩,hut.obj hao,hcl',p.getD y.i 0,hidx,⟨intsV p,gi⟩,hut.obj hao,hrng,⟨intsV p,gi⟩,hut.obj hao,by rw [idx1]; exact hcl,y.i,y.w,l,_,⟨took e,rfl,bad,_,h6,hF6,hbad⟩,
        ⟨rfl,rfl,rfl,rfl,rfl,rfl,rfl,rfl,rfl,rfl,rfl,rfl,rfl,?_⟩,fun σ' hR => ?_,fun σ' hY => ⟨σ',hY,rfl,.refl _⟩⟩
       ·dsimp only; rw [hspl]; exact .refl _
       ·exact ⟨⟨σ',[],y.i + 1,prodL (ls.take (y.i + 1))⟩,⟨hI2 σ' hR.2.2.2.2 hR.2.2.2.1,hμ⟩,rfl,rfl,rfl,rfl,rfl,rfl,rfl,by rw [hw2],rfl,rfl,by rw [hw1],.refl _⟩
      ·exact ⟨⟨y.σ.untok,[],y.i + 1,prodL (ls.take (y.i + 1))⟩,⟨hI2 _ ⟨bad,c,hut,hF,hbad⟩ (left e),hμ⟩,rfl,rfl,rfl,rfl,rfl,rfl,rfl,by rw [hw2],rfl,rfl,by rw [hw1],.refl _⟩
     ·refine .inr ⟨⟨ov,order.length⟩,rfl,⟨by omega,by rw [tcellL_length]; show (order.length:Int) < _; omega⟩,out[order.length],?_,l[p.getD y.i 0],out[order.length],rfl,hsm l hlm _ hxm,bcase_of (fun e => ?_) (fun e => ?_)⟩
      ·rw [Int.toNat_natCast]; exact tcellL_get hol
      ·refine ⟨ga,hut.obj hac,Nat.zero_lt_one,⟨intsV p,gi⟩,hut.obj hao,hrng,⟨intsV p,gi⟩,hut.obj hao,hcl',p.getD y.i 0,hidx,⟨intsV p,gi⟩,hut.obj hao,hrng,⟨intsV p,gi⟩,hut.obj hao,by rw [idx1]; exact hcl,y.i,y.w,l,_,⟨took e,rfl,bad,_,h6,hF6,hbad⟩,
        ⟨rfl,rfl,rfl,rfl,rfl,rfl,rfl,rfl,rfl,rfl,rfl,rfl,rfl,?_⟩,fun σ' hR => ?_,fun σ' hY => ⟨σ',hY,rfl,.refl _⟩⟩
       ·dsimp only; rw [hspl]; exact .refl _
       ·exact ⟨⟨σ',[],y.i + 1,prodL (ls.take (y.i + 1))⟩,⟨hI2 σ' hR.2.2.2.2 hR.2.2.2.1,hμ⟩,rfl,rfl,rfl,rfl,rfl,rfl,rfl,by rw [hw2],rfl,rfl,by rw [hw1],.refl _⟩
      ·exact ⟨⟨y.σ.untok,[],y.i + 1,prodL (ls.take (y.i + 1))⟩,⟨hI2 _ ⟨bad,c,hut,hF,hbad⟩ (left e),hμ⟩,rfl,rfl,rfl,rfl,rfl,rfl,rfl,by rw [hw2],rfl,rfl,by rw [hw1],.refl _⟩
   ·have hge:l.length <= p.getD y.i 0:=by
     have:=of_decide_eq_false hlt
     rw [tcellL_length] at this; omega
    have hg0:cand ls out p n y.i = none:=by unfold cand; rw [goesOn_none hl hge]
    exact ⟨⟨y.σ,[],y.i + 1,prodL (ls.take (y.i + 1))⟩,⟨hI2 _ ⟨bad,c,h,hF,hbad⟩ hg0,hμ⟩,rfl,rfl,rfl,rfl,rfl,rfl,rfl,by rw [hw2],rfl,rfl,by rw [hw1],.refl _⟩
  ·have hb:=of_decide_eq_false hb
   rw [lsV_len] at hb; omega
 ·refine wpX_ok (cuts:=cuts61) (L:=handL [(11,T61p f ls s (fun _ _ _ _ => False) (fun _ _ _ _ => False) (FYes f ls out p order))])
   hH (EV_mixed B w0 G) _ _ _ _ (fun lp hp _ Q a σ k => ?_) (by kernel_rfl) ((vc61l B w0 G f ls out S N s _ _ _ _ y).mpr (bcase_of (fun hb => ?_) (fun hb => ⟨hk,rfl,rfl,.refl _⟩)))
  ·exact handL_ok (P:=fun c Q a σ => AWp (EV B w0 G) none (fnTmps Tryz.prog 61) c Q a σ) k (fun _ k => by obtain ⟨_,_,_,_,k,_⟩:=k; exact k.elim) (fun k => k.elim)
  ·have hb:=of_decide_eq_true hb
   rw [lsV_len] at hb; omega
end
end Go.V
/- The search of Check: the function. -/
namespace Go.V
open Go Go.Proofs

theorem BadOk.mark {ls:List (List T)} {out:List T} {bad:List Bool} {p:List Nat} (h:BadOk ls out bad) (hb:Bnd ls p) (hn:mgF ls out (out.length - p.sum) p = none):BadOk ls out (bad.set (codeL ls p) true):=by
 refine ⟨by rw [List.length_set]; exact h.1,fun q hq hm hs => ?_⟩
 by_cases e:codeL ls q = codeL ls p
 ·rw [codeL_inj hq hb e]; exact hn
 ·refine h.2 q hq ?_ hs
  rw [List.getD_eq_getElem?_getD,List.getElem?_set_ne (Ne.symm e),<-List.getD_eq_getElem?_getD] at hm
  exact hm

section
variable {f:FI} {ls:List (List T)} {out:List T}
variable {B:Nat} {w0:World} {G:Nat -> AV} {S:Nat}
variable (hG:∀ i,NoId (G i))
include hG

theorem c61_ok (hsm:∀ l ∈ ls,∀ x ∈ l,x.small /\ SizeOf.sizeOf x < S) (hp:prodL ls <= 20000) (hlen:ls.length <= 8) (hout:out.length <= 1000000):∀ N,ContractOk (EV B w0 G) 61 (C61 f ls out N)
 | 0 => by
  rintro args σ Q ⟨s,p,order,bad,rfl,⟨_,_,_,_,hN,_⟩,_⟩
  omega
 | N + 1 => by
  rintro args σ Q ⟨s,p,order,bad,rfl,⟨⟨c,h,hF⟩,hb,ho,hle,hN,hs,hbad⟩,hQ1,hQ2⟩
  have hH:HOk1 (EV B w0 G) (H61 (EV B w0 G) f ls out S N):=hnd_ok (EV_mixed B w0 G) (contracts_cons (c62_ok hG S) (contracts_cons (c61_ok hsm hp hlen hout N) contracts_nil))
  obtain ⟨go,hou⟩:=hF.hout
  obtain ⟨v,g,hoc,hv⟩:=hF.hoc
  obtain ⟨gb,hbc⟩:=hF.hbc
  obtain ⟨gbo,hbo⟩:=hF.hbo
  obtain ⟨gl,hls⟩:=hF.hls
  have hcl:=codeL_lt hb
  have hbl:=hbad.1
  have hsb:s < bad.length:=by rw [hs,hbl]; exact hcl
  have hsb':(0 + Int.toNat (s:Int)) * 1 < (boolsV bad).length:=by rw [idx1,boolsV_len]; exact hsb
  have hget:(boolsV bad).getD ((0 + Int.toNat (s:Int)) * 1) .undef = .bool (bad.getD s false):=by rw [idx1]; exact boolsV_get hsb
  -- nothing is left
  have stop:order.length = out.length -> Q (.bool true) σ:=fun e => by
   have e0:out.length - p.sum = 0:=by omega
   exact hQ1 σ ⟨[],p,bad,c,by rw [e0]; rfl,h,by rw [List.append_nil]; exact hF⟩
  have marked:bad.getD s false = true -> Q (.bool false) σ:=fun e => hQ2 σ ⟨bad,c,hbad.2 p hb (by rw [<-hs]; exact e) hle,h,hF,hbad⟩
  let I:Nat -> Y61 -> Prop:=fun n y => y.i <= ls.length /\ y.w = prodL (ls.take y.i) /\ FS f ls out p order y.σ /\ ∀ j < y.i,cand ls out p n j = none
  let R:Nat -> Y61 -> Prop:=fun n y => FS f ls out p order y.σ /\ ∀ j < ls.length,cand ls out p n j = none
  -- the end of the loop
  have fin:∀ n,n + 1 = out.length - p.sum -> ∀ y':Y61,R n y' -> ∃ a9:Bool,y'.σ.objs f.bc = .cells [.rslice f.bo 0 (prodL ls)] 122 1 a9 /\ 0 < 1 /\ ∃ a10:OE,y'.σ.objs f.bo = .cells a10.cs 4 1 a10.g /\ ((0:Int) <= (s:Int) /\ (s:Int) < ((prodL ls:Nat):Int)) /\
    ∃ a11:OE,y'.σ.objs f.bo = .cells a11.cs 4 1 a11.g /\ (0 + Int.toNat (s:Int)) * 1 + 1 <= a11.cs.length /\ Q (.bool false) (y'.σ.set f.bo (.cells (asplice a11.cs ((0 + Int.toNat (s:Int)) * 1) [.bool true]) 4 1 a11.g)):=by
   rintro n hn y' ⟨⟨bad',c',h',hF',hbad'⟩,hall⟩
   obtain ⟨gb,hbc⟩:=hF'.hbc
   obtain ⟨gbo,hbo⟩:=hF'.hbo
   have hsb2:s < bad'.length:=by rw [hs,hbad'.1]; exact hcl
   have hmg:mgF ls out (out.length - p.sum) p = none:=by rw [<-hn]; exact mgF_none hall
   refine ⟨gb,h'.obj hbc,Nat.zero_lt_one,⟨boolsV bad',gbo⟩,h'.obj hbo,⟨by omega,by rw [hs]; omega⟩,⟨boolsV bad',gbo⟩,h'.obj hbo,by rw [idx1,boolsV_len]; exact hsb2,?_⟩
   dsimp only
   rw [idx1,asp1 (by rw [boolsV_len]; exact hsb2),boolsV_set]
   refine hQ2 _ ⟨bad'.set s true,_,hmg,h'.set hbo _,hF'.setB _ gbo,?_⟩
   rw [hs]; exact hbad'.mark hb hmg
  rcases Nat.lt_or_ge order.length out.length with hlt | hge
  ·obtain ⟨n,hn⟩:∃ n,n + 1 = out.length - p.sum:=⟨out.length - p.sum - 1,by omega⟩
   have hc:Call ls out N s p order n:=⟨hb,ho,hn,by omega,hs,hp,hlen,hout⟩
   refine bodyX_ok (cuts:=cuts61) (EV_mixed B w0 G) hH (fun lp hl _ Q a' σ kk => ?_) ((vc61 B w0 G f ls out S N s (I n) (R n) (FYes f ls out p order) σ Q).mpr ⟨⟨[v],g⟩,h.obj hoc,Nat.zero_lt_one,?_⟩)
   ·change lp ∈ fnParts Tryz.prog cuts61 61 at hl
    rw [fnParts_61] at hl
    simp only [List.mem_cons,List.not_mem_nil,or_false] at hl
    subst hl
    obtain ⟨y0,hI0,hat,hR1,hR2⟩:=kk
    refine awp_loopS (ls61 f ls s (I n) (FYes f ls out p order)) (x0:=y0) (fun y hI => c61l hc hsm hH y hI) (fun y hI e a' σ hne kk => ?_) hI0 hat
    obtain ⟨hi,hw,hS,hnn⟩:=hI
    cases e with
    | exit j =>
     match j,kk with
     | 0,kk =>
      have hk:¬ y.i < ls.length:=kk.1
      exact ⟨_,_,(atF_ok kk.2).1,(atF_ok kk.2).2,hR1 y ⟨hS,fun j hj => hnn j (by omega)⟩⟩
    | ret =>
     obtain ⟨σ1,h1,h2⟩:=kk
     exact ⟨_,_,(atF_ok h2).1,(atF_ok h2).2,hR2 _ h1⟩
    | normal => exact absurd rfl hne
    | _ => exact kk.elim
   ·have I0:I n ⟨σ,[],0,1⟩:=⟨Nat.zero_le _,rfl,⟨bad,c,h,hF,hbad⟩,fun j hj => absurd (show j < 0 from hj) (Nat.not_lt_zero j)⟩
    rcases hv with ⟨rfl,rfl⟩ | ⟨ov,cs,gv,rfl,hov,hle2,htk⟩
    ·refine .inl ⟨rfl,go,h.obj hou,Nat.zero_lt_one,bcase_of (fun e => ?_) (fun e => ⟨gb,h.obj hbc,Nat.zero_lt_one,⟨boolsV bad,gbo⟩,h.obj hbo,⟨by omega,by omega⟩,⟨boolsV bad,gbo⟩,h.obj hbo,hsb',bad.getD s false,hget,bcase_of marked (fun e2 =>
      ⟨gl,h.obj hls,Nat.zero_lt_one,⟨σ,[],0,1⟩,I0,⟨rfl,rfl,rfl,rfl,rfl,rfl,rfl,rfl,rfl,rfl,rfl,.refl _⟩,fin n hn,fun σ' hY => hQ1 σ' hY⟩)⟩)⟩
     refine stop ?_
     rw [tcellL_length] at e
     have:(0:Int) = (out.length:Int):=by simpa using e
     show 0 = out.length
     omega
    ·refine .inr ⟨⟨ov,order.length⟩,rfl,go,h.obj hou,Nat.zero_lt_one,bcase_of (fun e => ?_) (fun e => ⟨gb,h.obj hbc,Nat.zero_lt_one,⟨boolsV bad,gbo⟩,h.obj hbo,⟨by omega,by omega⟩,⟨boolsV bad,gbo⟩,h.obj hbo,hsb',bad.getD s false,hget,bcase_of marked (fun e2 =>
      ⟨gl,h.obj hls,Nat.zero_lt_one,⟨σ,[],0,1⟩,I0,⟨rfl,rfl,rfl,rfl,rfl,rfl,rfl,rfl,rfl,rfl,rfl,.refl _⟩,fin n hn,fun σ' hY => hQ1 σ' hY⟩)⟩)⟩
     refine stop ?_
     rw [tcellL_length] at e
     have:(order.length:Int) = (out.length:Int):=by simpa using e
     omega
  ·have e0:order.length = out.length:=by omega
   refine bodyX_ok (cuts:=cuts61) (EV_mixed B w0 G) hH (fun lp hl _ Q a' σ kk => ?_) ((vc61 B w0 G f ls out S N s (fun _ => False) (fun _ => False) (FYes f ls out p order) σ Q).mpr ⟨⟨[v],g⟩,h.obj hoc,Nat.zero_lt_one,?_⟩)
   ·change lp ∈ fnParts Tryz.prog cuts61 61 at hl
    rw [fnParts_61] at hl
    simp only [List.mem_cons,List.not_mem_nil,or_false] at hl
    subst hl
    obtain ⟨y0,hI0,_⟩:=kk
    exact hI0.elim
   ·rcases hv with ⟨rfl,rfl⟩ | ⟨ov,cs,gv,rfl,hov,hle2,htk⟩
    ·refine .inl ⟨rfl,go,h.obj hou,Nat.zero_lt_one,bcase_of (fun e => stop e0) (fun e => ?_)⟩
     rw [tcellL_length,<-e0] at e
     simp at e
    ·refine .inr ⟨⟨ov,order.length⟩,rfl,go,h.obj hou,Nat.zero_lt_one,bcase_of (fun e => stop e0) (fun e => ?_)⟩
     rw [tcellL_length,<-e0] at e
     simp at e
end
end Go.V
