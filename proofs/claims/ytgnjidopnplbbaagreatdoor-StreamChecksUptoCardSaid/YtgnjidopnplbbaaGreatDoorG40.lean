import Derived.Test.YtgnjidopnplbbaaGreatDoorG39
/- Check. -/
set_option maxRecDepth 1000000
set_option linter.unusedVariables false
set_option linter.unusedSimpArgs false
set_option linter.unusedSectionVars false
namespace Go.V
open Go Go.Proofs

theorem grT_small {x:T} (h:grT x = true):x.small:=by
 unfold grT at h
 rw [Bool.and_eq_true,decide_eq_true_eq] at h
 exact chk_small h.1
theorem sumL_take' {ls:List (List T)} {i:Nat} {l:List T} (h:ls[i]? = some l):sumL (ls.take (i + 1)) = sumL (ls.take i) + l.length:=by
 have hi:=getElem_lt h
 rw [List.getElem?_eq_getElem hi] at h
 cases h
 exact sumL_take hi
theorem allG {ls:List (List T)}:(ls.all (fun l => l.all grT) = true ↔ ∀ l ∈ ls,∀ x ∈ l,grT x = true):=by simp
theorem notG {ls:List (List T)} (h:∃ l ∈ ls,∃ x ∈ l,grT x = false):ls.all (fun l => l.all grT) = false:=by
 cases e:ls.all (fun l => l.all grT) with
 | false => rfl
 | true =>
  obtain ⟨l,hl,x,hx,hg⟩:=h
  rw [allG.1 e l hl x hx] at hg; cases hg

section
variable {ls:List (List T)} {out:List T} {B:Nat} {w0:World} {G:Nat -> AV}
variable (hG:∀ i,NoId (G i))

def I18 (ls:List (List T)) (σ:State) (y:Y18):Prop:=y.i <= ls.length /\ y.all = prodL (ls.take y.i) /\ y.many = sumL (ls.take y.i) /\ y.σ = σ /\ y.all <= 20000

theorem c18l (out:List T) (hlen:ls.length <= 8) (hsum:sumL ls <= 1000000) {σ0:State} (Q:Post) (a:AAct) (σ:State) (h:T18l ls (I18 ls σ0) (fun σ' => σ' = σ0) (.loop (bodyOf (part18l Tryz.prog))) Q a σ) :
  AWp (EV B w0 G) none (fnTmps Tryz.prog 18) (.loop (bodyOf (part18l Tryz.prog))) Q a σ:=by
 obtain ⟨y0,hI0,hat,hR1,hR2⟩:=h
 refine awp_loopS (ls18 ls (I18 ls σ0)) (x0:=y0) (fun y hI => ?_) (fun y hI e a' σ hne kk => ?_) hI0 hat
 ·obtain ⟨hi,ha,hm,hs,h2⟩:I18 ls σ0 y:=hI
  show AWp _ _ _ _ _ (frm (F18 ls y) []) y.σ
  refine wpX_ok (cuts:=cuts18) H0y_ok (EV_mixed B w0 G) (L:=fun _ _ _ _ => False) _ _ _ _ (fun p hp hc Q a σ k => k.elim) (by kernel_rfl) ((vc18l B w0 G ls out (I18 ls σ0) y).mpr (bcase_of (fun hb => ?_) (fun hb => ⟨fun h2 => ?_,rfl,rfl,rfl,rfl,.refl _⟩)))
  ·have hb':=of_decide_eq_true hb
   have hk:y.i < ls.length:=by rw [lsV_len] at hb'; omega
   obtain ⟨l,hl⟩:∃ l,ls[y.i]? = some l:=⟨_,List.getElem?_eq_getElem hk⟩
   have hpt:=prodL_take hl
   have hst:=sumL_take' hl
   have hsle:=sumL_take_le ls (y.i + 1)
   have hptl:=prodL_take_le ls (y.i + 1)
   have w1:IntKind.wrap .i64 ((y.i:Int) + 1) = ((y.i + 1:Nat):Int):=by rw [wr_small (by omega) (by omega)]; omega
   have w2:IntKind.wrap .i64 (((tcellL l).length:Int) + 1) = ((l.length + 1:Nat):Int):=by rw [tcellL_length,wr_small (by omega) (by omega)]; omega
   have w3:IntKind.wrap .i64 (Int.tdiv 20000 ((l.length + 1:Nat):Int)) = ((20000 / (l.length + 1):Nat):Int):=by
    have e:Int.tdiv 20000 ((l.length + 1:Nat):Int) = ((20000 / (l.length + 1):Nat):Int):=by
     show Int.tdiv ((20000:Nat):Int) _ = _
     exact (Int.ofNat_tdiv 20000 (l.length + 1)).symm
    have hdl:=Nat.div_le_self 20000 (l.length + 1)
    rw [e]
    generalize 20000 / (l.length + 1) = q at hdl ⊢
    rw [wr_small (by omega) (by omega)]
   have w4:IntKind.wrap .i64 ((y.many:Int) + ((tcellL l).length:Int)) = ((sumL (ls.take (y.i + 1)):Nat):Int):=by rw [tcellL_length,hst,hm,wr_small (by omega) (by omega)]; omega
   refine ⟨⟨by omega,hb'⟩,l,?_,?_,?_⟩
   ·rw [Int.toNat_natCast,lsV_get hk]
    rw [List.getElem?_eq_getElem hk] at hl
    cases hl; rfl
   ·rw [w2]; omega
   ·rw [w2,w3]
    refine bcase_of (fun hgt => ?_) (fun hgt => ?_)
    ·have hgt:=of_decide_eq_true hgt
     have hgt':20000 / (l.length + 1) < y.all:=Int.ofNat_lt.1 hgt
     rw [Nat.div_lt_iff_lt_mul (by omega)] at hgt'
     rw [ha,<-hpt] at hgt'
     exact ⟨by omega,rfl,rfl,rfl,.refl _⟩
    ·have hgt:=of_decide_eq_false hgt
     have hgt':¬ 20000 / (l.length + 1) < y.all:=fun h => hgt (Int.ofNat_lt.2 h)
     rw [Nat.div_lt_iff_lt_mul (by omega)] at hgt'
     rw [ha,<-hpt] at hgt'
     have w5:IntKind.wrap .i64 ((y.all:Int) * ((l.length + 1:Nat):Int)) = ((prodL (ls.take (y.i + 1)):Nat):Int):=by
      have e:(y.all:Int) * ((l.length + 1:Nat):Int) = ((prodL (ls.take (y.i + 1)):Nat):Int):=by rw [hpt,ha,Int.natCast_mul]
      rw [e,wr_small (by omega) (by omega)]
     rw [w5,w4,w1]
     refine ⟨⟨y.σ,y.i + 1,prodL (ls.take (y.i + 1)),sumL (ls.take (y.i + 1))⟩,⟨⟨hk,rfl,rfl,hs,by show prodL (ls.take (y.i + 1)) <= 20000; omega⟩,?_⟩,rfl,rfl,rfl,rfl,rfl,rfl,rfl,.refl _⟩
     show ls.length - (y.i + 1) < ls.length - y.i
     omega
  ·have hb:=of_decide_eq_false hb
   rw [lsV_len] at hb; omega
 ·obtain ⟨hi,ha,hm,hs,h2⟩:I18 ls σ0 y:=hI
  cases e with
  | exit j =>
   match j,kk with
   | 0,kk =>
    have hk:¬ y.i < ls.length:=kk.1
    have e:ls.take y.i = ls:=by rw [show y.i = ls.length by omega,List.take_length]
    rw [e] at ha hm
    have hk2:=kk.2
    rw [ha,hm] at hk2
    exact ⟨_,_,(atF_ok hk2).1,(atF_ok hk2).2,hR1 _ hs (by omega)⟩
  | ret => exact ⟨_,_,(atF_ok kk.2).1,(atF_ok kk.2).2,hR2 _ hs kk.1⟩
  | normal => exact absurd rfl hne
  | _ => exact kk.elim

include hG
theorem c18a (hgr:∀ l ∈ ls ++ [out],∀ x ∈ l,grT x = true) (hlen:ls.length <= 8) (hout:out.length <= 1000000) (hsum:sumL ls <= 1000000) {σ:State} {c:Heap KR} (hI:In18 ls out σ c) (Q:Post)
  (hQ:∀ (v:AV) (b:Bool) (err:Int) (σ':State),Ret18 (checkS ls out) v b err σ' -> Q .ret (frm [(4,.v v),(5,.v (.bool b)),(6,.v (.int .i64 err))] []) σ') (a:AAct) (σ1:State) (hat:atF a [(2,.v (.ptr 0 0)),(3,.v (.ptr 1 0))] [] (σ.Le σ1)) :
  AWp (EV B w0 G) none (fnTmps Tryz.prog 18) (part18a Tryz.prog) Q a σ1:=by
 have hge:(ls ++ [out]).all (fun l => l.all grT) = true:=allG.2 hgr
 have hc:∀ r,(20000 < prodL ls -> r = (([],false,2):List Nat × Bool × Int)) -> (prodL ls <= 20000 -> sumL ls ≠ out.length -> r = ([],false,0)) -> (prodL ls <= 20000 -> sumL ls = out.length -> r = (match mgF ls out out.length (List.replicate ls.length 0) with | some o => (o,true,0) | none => ([],false,0))) -> checkS ls out = r:=by
  intro r h1 h2 h3
  unfold checkS
  rw [if_neg (by omega),if_neg (by rw [hge]; simp)]
  by_cases e:20000 < prodL ls
  ·rw [if_pos e,h1 e]
  ·rw [if_neg e]
   by_cases e2:sumL ls ≠ out.length
   ·rw [if_pos e2,h2 (by omega) e2]
   ·rw [if_neg e2]; exact (h3 (by omega) (by omega)).symm
 obtain ⟨gl,hls⟩:=hI.hls
 obtain ⟨go,hou⟩:=hI.hout
 refine .post_wk (.pre_wk (atF_ok hat).1 (atF_ok hat).2 ((wpX_ok (cuts:=cuts18) (L:=handL [(8,T18l ls (I18 ls σ) (fun σ' => σ' = σ)),(17,T18p [(2,.v (.ptr 0 0)),(3,.v (.ptr 1 0)),(8,.v (.int .i64 (prodL ls:Int)))] (fun σ' => σ' = σ /\ prodL ls <= 20000 /\ sumL ls = out.length) (Ret18 (checkS ls out)))])
  H0y_ok (EV_mixed B w0 G) _ _ _ _ (fun lp hp _ Q a σ' k => ?_) (by kernel_rfl) ((vc18a B w0 G ls out (I18 ls σ) _ _ (Ret18 (checkS ls out)) σ).mpr ⟨gl,hI.at_.obj hls,Nat.zero_lt_one,⟨σ,0,1,0⟩,⟨Nat.zero_le _,rfl,rfl,rfl,by show 1 <= 20000; omega⟩,⟨rfl,rfl,rfl,rfl,rfl,rfl,rfl,.refl _⟩,fun σ' e hle => ?_,fun σ' e hgt => ?_⟩)).mono fun e a σ k => ?_))
 ·rw [partsIn_18a] at hp
  simp only [List.mem_cons,List.not_mem_nil,or_false] at hp
  rcases hp with rfl | rfl
  ·exact handL_ok (P:=fun c Q a σ => AWp (EV B w0 G) none (fnTmps Tryz.prog 18) c Q a σ) k (fun _ k => c18l out hlen hsum Q a σ' k) (fun k => handL_ok (P:=fun c Q a σ => AWp (EV B w0 G) none (fnTmps Tryz.prog 18) c Q a σ) k (fun e _ => by rw [headId_18.2] at e; cases e) (fun k => k.elim))
  ·refine handL_ok (P:=fun c Q a σ => AWp (EV B w0 G) none (fnTmps Tryz.prog 18) c Q a σ) k (fun e _ => by rw [headId_18.1] at e; cases e) (fun k => handL_ok (P:=fun c Q a σ => AWp (EV B w0 G) none (fnTmps Tryz.prog 18) c Q a σ) k (fun _ k => ?_) (fun k => k.elim))
   obtain ⟨σ0,⟨rfl,hle,hse⟩,hat0,hR⟩:=k
   refine .post_wk (.pre_wk (atF_ok hat0).1 (atF_ok hat0).2 ((c18b hG (fun l hl x hx => grT_small (hgr l (List.mem_append_left _ hl) x hx)) hle hlen hout (checkS ls out) (fun o ho => hc _ (fun h => by omega) (fun _ h => absurd hse h) (fun _ _ => by rw [ho])) (fun ho => hc _ (fun h => by omega) (fun _ h => absurd hse h) (fun _ _ => by rw [ho])) hI).mono fun e a σ k => ?_))
   cases e with
   | ret =>
    obtain ⟨v,b,err,h1,h2⟩:=k
    exact ⟨_,_,(atF_ok h2).1,.refl _,hR _ _ _ _ h1⟩
   | _ => exact k.elim
 ·subst e
  refine ⟨go,hI.at_.obj hou,Nat.zero_lt_one,bcase_of (fun h => ?_) (fun h => ?_)⟩
  ·have h:sumL ls ≠ out.length:=by
    rw [tcellL_length] at h
    intro e
    rw [e] at h
    simp at h
   exact ⟨_,_,_,Ret18.nil (hc _ (fun h => by omega) (fun _ _ => rfl) (fun _ e => absurd e h)),rfl,rfl,rfl,trivial⟩
  ·have h:sumL ls = out.length:=by
    rw [tcellL_length] at h
    have:(sumL ls:Int) = (out.length:Int):=by simpa [bne] using h
    omega
   exact ⟨σ',⟨rfl,hle,h⟩,⟨rfl,rfl,rfl,.refl _⟩,fun v b err σ'' hR => ⟨v,b,err,hR,rfl,rfl,rfl,trivial⟩⟩
 ·subst e
  exact ⟨_,_,_,Ret18.nil (hc _ (fun _ => rfl) (fun h => by omega) (fun h => by omega)),rfl,rfl,rfl,trivial⟩
 ·cases e with
  | ret =>
   obtain ⟨v,b,err,h1,h2⟩:=k
   exact ⟨_,_,(atF_ok h2).1,.refl _,hQ _ _ _ _ h1⟩
  | _ => exact k.elim
end
end Go.V
/- Check: the function. -/
namespace Go.V
open Go Go.Proofs

def C18:Contract:=fun args σ K => ∃ (ls:List (List T)) (out:List T),args = [.slice 1 (lsV ls) .any,slV out] /\ (ls.length <= 1000 /\ sumL ls <= 1000000 /\ out.length <= 1000000) /\
 K (.tuple [.slice 1 (intsV (checkS ls out).1) .any,.bool (checkS ls out).2.1,.int .i64 (checkS ls out).2.2]) σ.untok

theorem NoTok.none:NoTok (fun _ => none):=fun r id o h => by cases h

section
variable {B:Nat} {w0:World} {G:Nat -> AV}
variable (hG:∀ i,NoId (G i))
include hG
theorem c18_ok:ContractOk (EV B w0 G) 18 C18:=by
 rintro args σ Q ⟨ls,out,rfl,⟨hb1,hb2,hb3⟩,hQ⟩
 refine pureT hG (N:=3) (fun y hy => ?_) (fun y hy => ?_) ?_ hQ
 ·simp only [List.mem_cons,List.not_mem_nil,or_false] at hy
  rcases hy with rfl | rfl
  ·exact lsV_noId ls
  ·exact slV_noId out
 ·simp only [List.mem_cons,List.not_mem_nil,or_false] at hy
  rcases hy with rfl | rfl | rfl
  ·exact .slice (by simp) (intsV_noId _)
  ·exact .bool _
  ·exact .int _ _
 clear hQ Q
 have hend:∀ (v:AV) (b:Bool) (err:Int) (σ':State),Ret18 (checkS ls out) v b err σ' -> ∃ vs vs',AV.tuple [v,.bool b,.int .i64 err] = .tuple vs /\ vs.mapM (deep Tryz.prog σ' 3) = some vs' /\
   WkL vs' [.slice 1 (intsV (checkS ls out).1) .any,.bool (checkS ls out).2.1,.int .i64 (checkS ls out).2.2]:=fun v b err σ' ⟨vs,h1,h2⟩ => ⟨_,vs,rfl,h1,h2⟩
 have hH:HOk1 (EV B w0 G) (H18a (EV B w0 G)):=hnd_ok (EV_mixed B w0 G) (contracts_cons c60_ok (contracts_cons (c59_ok hG) contracts_nil))
 refine bodyX_ok (cuts:=cuts18) (EV_mixed B w0 G) hH (fun lp hl _ Q a' σ kk => ?_) ((vc18 B w0 G ls out (fun σ0 => (∃ c,In18 ls out σ0 c) /\ ls.length <= 8 /\ ∀ l ∈ ls ++ [out],∀ x ∈ l,grT x = true) (Ret18 (checkS ls out)) _).mpr (bcase_of (fun h => ?_) (fun h => ?_)))
 ·change lp ∈ fnParts Tryz.prog cuts18 18 at hl
  rw [fnParts_18.1] at hl
  simp only [List.mem_cons,List.not_mem_nil,or_false] at hl
  subst hl
  refine handL_ok (P:=fun c Q a σ => AWp (EV B w0 G) none (fnTmps Tryz.prog 18) c Q a σ) kk (fun _ k => ?_) (fun k => k.elim)
  obtain ⟨σ0,⟨⟨c,hI⟩,hlen,hgr⟩,hat,hR⟩:=k
  exact c18a hG hgr hlen hb3 hb2 hI Q hR a' σ hat
 ·have h:=of_decide_eq_true h
  rw [lsV_len] at h
  refine hend _ _ _ _ (Ret18.nil ?_)
  unfold checkS
  rw [if_pos (by omega)]
 ·have h:=of_decide_eq_false h
  rw [lsV_len] at h
  have hlen:ls.length <= 8:=by omega
  have hbl:∀ l ∈ ls ++ [out],l.length <= 1099511627776:=fun l hl => by
   rcases List.mem_append.1 hl with hl | hl
   ·have:=sumL_mem hl; omega
   ·obtain rfl:l = out:=by simpa using hl
    omega
  have hbad:(∃ l ∈ ls ++ [out],∃ x ∈ l,grT x = false) -> ∀ σ',Ret18 (checkS ls out) .nilslice false 3 σ':=fun hx σ' => Ret18.nil (by
   unfold checkS
   rw [if_neg (by omega),if_pos (notG hx)])
  have h0:At (fun _:KR => (none:Option (Nat × AObj))) noObj:=⟨fun r id o h => (by cases h),fun r s id o o' h => (by cases h)⟩
  have h2:=(h0.new .ls (.cells [.slice 1 (lsV ls) .any] 22 1 false)).new .out (.cells [.slice 4 (tcellL out) .any] 23 1 false)
  obtain ⟨c2,hc2,a2,b2,t2⟩:∃ c2:Heap KR,At c2 ((noObj.new (.cells [.slice 1 (lsV ls) .any] 22 1 false)).new (.cells [.slice 4 (tcellL out) .any] 23 1 false)) /\ c2 .ls = some (0,.cells [.slice 1 (lsV ls) .any] 22 1 false) /\
   c2 .out = some (1,.cells [.slice 4 (tcellL out) .any] 23 1 false) /\ NoTok c2:=⟨_,h2,rfl,rfl,NoTok.none.up.up⟩
  have nilc:ls = [] -> ∃ (id1 n2:Nat) (g3:Bool) (ls4:List (List T)) (c5:Heap KR),[AV.rslice 2 0 1] = [AV.rslice id1 0 n2] /\
    (At c5 (((noObj.new (.cells [.slice 1 (lsV ls) .any] 22 1 false)).new (.cells [.slice 4 (tcellL out) .any] 23 1 false)).new (.cells [.slice 4 (tcellL out) .any] 23 1 true)) /\ NoTok c5 /\ c5 .cl = some (id1,.cells (lsV ls4) 23 1 g3) /\ ls4.length = n2 /\ n2 <= 1000000 /\ ∀ l6 ∈ ls4,l6.length <= 1099511627776) /\
    ∀ σ'6:State,At c5 σ'6 -> ((∀ l7 ∈ ls4,∀ x8 ∈ l7,grT x8 = true) -> ∃ σ07:State,((∃ c,In18 ls out σ07 c) /\ ls.length <= 8 /\ ∀ l ∈ ls ++ [out],∀ x ∈ l,grT x = true) /\ (Rf (TV.v (AV.ptr 0 0)) /\ Rf (TV.v (AV.ptr 1 0)) /\ State.Le σ07 σ'6) /\
     ∀ (v8:AV) (b9:Bool) (err10:Int) (σ'11:State),Ret18 (checkS ls out) v8 b9 err10 σ'11 -> ∃ vs vs',AV.tuple [v8,.bool b9,.int .i64 err10] = .tuple vs /\ vs.mapM (deep Tryz.prog σ'11 3) = some vs' /\
      WkL vs' [.slice 1 (intsV (checkS ls out).1) .any,.bool (checkS ls out).2.1,.int .i64 (checkS ls out).2.2]) /\
     ((∃ l7 ∈ ls4,∃ x8 ∈ l7,grT x8 = false) -> ∃ vs vs',AV.tuple [.nilslice,.bool false,.int .i64 3] = .tuple vs /\ vs.mapM (deep Tryz.prog σ'6 3) = some vs' /\
      WkL vs' [.slice 1 (intsV (checkS ls out).1) .any,.bool (checkS ls out).2.1,.int .i64 (checkS ls out).2.2]):=fun e => by
   have h3:At (hup c2 .cl (some (2,.cells (lsV (ls ++ [out])) 23 1 true))) (((noObj.new (.cells [.slice 1 (lsV ls) .any] 22 1 false)).new (.cells [.slice 4 (tcellL out) .any] 23 1 false)).new (.cells [.slice 4 (tcellL out) .any] 23 1 true)):=by
    subst e; exact hc2.new .cl _
   refine ⟨2,1,true,ls ++ [out],_,rfl,⟨h3,t2.up,hup_self,by subst e; rfl,by omega,hbl⟩,fun σ' hσ => ⟨fun hg => ⟨σ',⟨⟨_,hσ,t2.up,⟨false,by rw [hup_ne (by simp),a2]⟩,⟨false,by rw [hup_ne (by simp),b2]; rfl⟩⟩,hlen,hg⟩,⟨rfl,rfl,.refl _⟩,hend⟩,fun hx => hend _ _ _ _ (hbad hx σ')⟩⟩
  refine ⟨ls,rfl,by omega,fun e => ⟨rfl,rfl,⟨by omega,by omega⟩,nilc e⟩,fun e => ⟨rfl,rfl,⟨by omega,by omega⟩,nilc e⟩,fun e => ⟨rfl,rfl,⟨lsV ls,true⟩,rfl,⟨rfl,⟨by omega,by omega⟩,by show ls.length * 1 <= (lsV ls).length; rw [lsV_len]; omega⟩,?_⟩⟩
  have h3:=hc2.new .cl (.cells (lsV ls) 23 1 true)
  have h4:=h3.grow hup_self (.cells (List.take (ls.length * 1) (lsV ls) ++ [.slice 4 (tcellL out) .any]) 23 1 true)
  have ecl:List.take (ls.length * 1) (lsV ls) ++ [AV.slice 4 (tcellL out) .any] = lsV (ls ++ [out]):=by
   rw [Nat.mul_one,<-lsV_len ls,List.take_length]
   unfold lsV; rw [List.map_append]; rfl
  refine ⟨3,ls.length + 1,true,ls ++ [out],_,rfl,⟨h4,t2.up.up,?_,by simp,by omega,hbl⟩,fun σ' hσ => ⟨fun hg => ⟨σ',⟨⟨_,hσ,t2.up.up,⟨false,by rw [hup_ne (by simp),hup_ne (by simp),a2]⟩,⟨false,by rw [hup_ne (by simp),hup_ne (by simp),b2]; rfl⟩⟩,hlen,hg⟩,⟨rfl,rfl,.refl _⟩,hend⟩,fun hx => hend _ _ _ _ (hbad hx σ')⟩⟩
  rw [hup_self,<-ecl]; rfl
end
end Go.V
