import Derived.Test.YtgnjidopnplbbaaGreatDoorN23
/- The methods of a merger: Split. -/
set_option maxRecDepth 1000000
set_option linter.unusedVariables false
set_option linter.unusedSimpArgs false
set_option linter.unusedSectionVars false
namespace Go.V
open Go Go.Proofs

theorem Rep.setBeh {c c':MH} {L:ML} {p:PM} (h:Rep c L p) {k:Nat} (hk:k < L.ids.length) {bv qv:AV} {qf:Nat} {b:List Nat}
  (ho:c' (.inp k) = some (L.ids[k],.cells [.bool (p.at k).op,.bool (p.at k).fr,bv,qv,.int .i64 (qf:Int)] 159 5 false)) (hb:SlAt c' (.beh k) 3 1 bv (intsV b)) (hq:QuAt c (.itm k) 37 4 qv qf (p.at k).q.length (flat (tcellL (p.at k).q)))
  (hs:Same c c' [.inp k,.beh k]):Rep c' L (p.setI k { p.at k with beh:=b }) where
 m:=(hs _ (by simp)).trans h.m
 ins:=h.ins.congr (hs _ (by simp))
 turn:=h.turn.congr (hs _ (by simp))
 len:=h.len.trans List.length_set.symm
 inp j hj:=by
  rw [PM.setI_at (by rw [<-h.len]; exact hk)]
  by_cases e:j = k
  ·subst e
   rw [if_pos rfl]
   exact ⟨bv,qv,qf,ho,hb,hq.congr (hs _ (by simp))⟩
  ·rw [if_neg e]
   exact (h.inp j hj).congr (hs _ (by simp [e])) (hs _ (by simp [e])) (hs _ (by simp))

def PM.spl (p:PM) (k j:Nat):PM:={ p with I:=(p.I ++ List.replicate j (⟨true,false,[],[]⟩:PI)).set k { p.at k with beh:=(p.at k).beh ++ List.range' p.I.length j } }
theorem spl_zero {p:PM} {k:Nat} (hk:k < p.I.length):p.spl k 0 = p:=by
 unfold PM.spl
 have:(p.I ++ List.replicate 0 (⟨true,false,[],[]⟩:PI)).set k { p.at k with beh:=(p.at k).beh ++ List.range' p.I.length 0 } = p.I:=by
  simp only [List.replicate_zero,List.append_nil,List.range'_zero]
  unfold PM.at
  simp [List.getD,List.getElem?_eq_getElem hk]
  exact List.set_getElem_self hk
 rw [this]
theorem spl_at {p:PM} {k j:Nat} (hk:k < p.I.length):(p.spl k j).at k = { p.at k with beh:=(p.at k).beh ++ List.range' p.I.length j }:=by
 rw [PM.set_at (p:=p.spl k j) rfl (by rw [List.length_append]; omega),if_pos rfl]
theorem spl_len {p:PM} {k j:Nat}:(p.spl k j).I.length = p.I.length + j:=by
 show ((p.I ++ List.replicate j _).set k _).length = _
 simp
theorem spl_succ {p:PM} {k j:Nat} (hk:k < p.I.length):PM.setI { p.spl k j with I:=(p.spl k j).I ++ [⟨true,false,[],[]⟩] } k { PM.at { p.spl k j with I:=(p.spl k j).I ++ [⟨true,false,[],[]⟩] } k with beh:=(PM.at { p.spl k j with I:=(p.spl k j).I ++ [⟨true,false,[],[]⟩] } k).beh ++ [p.I.length + j] } = p.spl k (j + 1):=by
 have h1:PM.at { p.spl k j with I:=(p.spl k j).I ++ [⟨true,false,[],[]⟩] } k = { p.at k with beh:=(p.at k).beh ++ List.range' p.I.length j }:=by
  rw [PM.at_append (by rw [spl_len]; omega),spl_at hk]
 rw [h1]
 unfold PM.setI
 have h2:(((p.spl k j).I ++ [(⟨true,false,[],[]⟩:PI)]).set k { p.at k with beh:=(p.at k).beh ++ List.range' p.I.length j ++ [p.I.length + j] }) = (p.spl k (j + 1)).I:=by
  have hA:k < (p.I ++ List.replicate j (⟨true,false,[],[]⟩:PI)).length:=by rw [List.length_append]; omega
  refine Eq.trans (List.set_append_left k _ (by rw [spl_len]; omega)) ?_
  show ((p.I ++ List.replicate j (⟨true,false,[],[]⟩:PI)).set k _).set k _ ++ [(⟨true,false,[],[]⟩:PI)] = (p.I ++ List.replicate (j + 1) (⟨true,false,[],[]⟩:PI)).set k { p.at k with beh:=(p.at k).beh ++ List.range' p.I.length (j + 1) }
  rw [List.set_set,List.range'_concat,List.replicate_succ',<-List.append_assoc p.I,List.set_append_left k _ hA,<-List.append_assoc (p.at k).beh,Nat.one_mul]
 show ({ p.spl k j with I:=_ }:PM) = _
 rw [h2]
 rfl

structure I42 (c1:MH) (M:Nat) (p1:PM) (k id N:Nat) (y:Y87):Prop where
 at_:At y.c y.σ
 rep:Rep y.c y.L (p1.spl k y.j)
 M:y.L.M = M
 idk:y.L.ids[k]? = some id
 j:y.j <= N
 xs:Frame' c1 y.c

def C42r:Contract:=fun args σ K => ∃ (c:MH) (M:Nat) (m:RM) (i n:Int),args = [.ptr M 0,.int .i64 i,.int .i64 n] /\ (At c σ /\ MRep c M m) /\
 ∀ (c':MH) (σ':State),(At c' σ' /\ MRep c' M (m.split i n).1 /\ Frame' c c') -> K (.tuple [.slice 1 (intsV (m.split i n).2.1) .any,.int .i64 (m.split i n).2.2]) σ'

section
variable {B:Nat} {w0:World} {G:Nat -> AV}
variable (hG:∀ i,NoId (G i))
include hG
theorem H42_ok:HOk1 (EV B w0 G) (H42 (EV B w0 G)):=hnd_ok (EV_mixed B w0 G) (contracts_cons c83_ok (contracts_cons c84_ok (contracts_cons c85_ok (contracts_cons c86_ok (contracts_cons (c87_ok hG) contracts_nil)))))

theorem loop42 {c1:MH} {M:Nat} {p1:PM} {k id N:Nat} (hk:k < p1.I.length) (hl:p1.I.length <= 5000) (hN:N <= 64) (hb1:(p1.at k).beh = []) {y0:Y87} (h0:I42 c1 M p1 k id N y0) (Q:Post) (a:AAct) (σ:State) (ha:atF a (F42 id (N:Int) y0) [] (y0.σ.Le σ))
  (hQ:∀ y',I42 c1 M p1 k id N y' -> y'.j = N -> Q (.exit 1) (frm [(0,.v (.ptr y'.L.M 0)),(8,.v (.ptr id 0))] []) y'.σ):AWp (EV B w0 G) none (fnTmps Tryz.prog 42) (.loop (bodyOf (fnPart Tryz.prog [] 42 0))) Q a σ:=by
 refine awp_loopS (ls42 id (N:Int) (fun y => I42 c1 M p1 k id N y)) (x0:=y0) (fun y hI => ?_) (fun y hI e a σ hne kk => ?_) h0 ha
 ·have hI:I42 c1 M p1 k id N y:=hI
  show AWp _ _ _ _ _ (frm (F42 id (N:Int) y) []) y.σ
  have hj:=hI.j
  have hA:=hI.at_
  have hR:=hI.rep
  have w1:IntKind.wrap .i64 ((y.j:Int) + 1) = ((y.j + 1:Nat):Int):=by rw [wr_small (by omega) (by omega)]; omega
  obtain ⟨hkl,hke⟩:=List.getElem?_eq_some_iff.1 hI.idk
  obtain ⟨bv,qv,qf,hob,hbs,hq⟩:=(hR.inp k hkl).ex
  have hspk:=spl_at (j:=y.j) hk
  have hspl:(p1.spl k y.j).I.length = p1.I.length + y.j:=spl_len
  rw [hke] at hob
  have hobj:=hA.obj hob
  have key:∀ (c':MH) (L':ML) (σ':State),At c' σ' -> L'.M = y.L.M -> Rep c' L' { p1.spl k y.j with I:=(p1.spl k y.j).I ++ [⟨true,false,[],[]⟩] } -> Same y.c c' [.m,.ins,.inp (p1.spl k y.j).I.length] -> (∀ (k:Nat) (id:Nat),y.L.ids[k]? = some id -> L'.ids[k]? = some id) ->
    ∀ (σ2:State) (c2:MH) (bv':AV),At c2 σ2 -> c2 (.inp k) = some (id,.cells [.bool (p1.at k).op,.bool (p1.at k).fr,bv',qv,.int .i64 (qf:Int)] 159 5 false) -> SlAt c2 (.beh k) 3 1 bv' (intsV ((p1.at k).beh ++ List.range' p1.I.length y.j ++ [p1.I.length + y.j])) -> Same c' c2 [.inp k,.beh k] ->
    I42 c1 M p1 k id N ⟨σ2,c2,L',p1,y.j + 1⟩ \/ ¬ (y.j < N):=fun c' L' σ' h1 h2 h3 h4 h5 σ2 c2 bv' g1 g2 g3 g4 => by
   by_cases hjN:y.j < N
   ·left
    have hid':=h5 k id hI.idk
    obtain ⟨hkl',hke'⟩:=List.getElem?_eq_some_iff.1 hid'
    have hat:PM.at { p1.spl k y.j with I:=(p1.spl k y.j).I ++ [⟨true,false,[],[]⟩] } k = { p1.at k with beh:=(p1.at k).beh ++ List.range' p1.I.length y.j }:=by rw [PM.at_append (by omega),hspk]
    have hr:=h3.setBeh (c':=c2) (k:=k) (bv:=bv') (qv:=qv) (qf:=qf) (b:=(p1.at k).beh ++ List.range' p1.I.length y.j ++ [p1.I.length + y.j]) hkl' (by rw [hat,hke']; exact g2) g3 (by rw [hat]; rw [hspk] at hq; exact hq.congr (h4 _ (by simp))) g4
    have e:=spl_succ (p:=p1) (k:=k) (j:=y.j) hk
    rw [hat] at e hr
    rw [e] at hr
    refine ⟨g1,hr,h2.trans hI.M,hid',hjN,hI.xs.trans ((h4.frame ?_).trans (g4.frame ?_))⟩
    ·intro q hq; simp at hq; rcases hq with rfl | rfl | rfl <;> rfl
    ·intro q hq; simp at hq; rcases hq with rfl | rfl <;> rfl
   ·exact .inr hjN
  have hfin:(decide ((y.j:Int) < (N:Int))) = false -> (¬ ((y.j:Int) < (N:Int)) /\ (TV.v (.ptr y.L.M 0) = TV.v (.ptr y.L.M 0)) /\ (TV.v (.ptr id 0) = TV.v (.ptr id 0)) /\ y.σ.Le y.σ):=fun h => ⟨of_decide_eq_false h,rfl,rfl,.refl _⟩
  have hμ:y.j < N -> (N:Int).toNat - (y.j + 1) < (N:Int).toNat - y.j:=fun h => by omega
  rcases hbs.inv with ⟨rfl,hnil⟩ | ⟨bid,nb,g,rfl,hbs',hbl⟩
  ·refine wpX_ok (H42_ok hG) (EV_mixed B w0 G) (L:=fun _ _ _ _ => False) _ _ _ _ (fun p hp hc Q a σ k => k.elim) (by kernel_rfl) ((vc42n B w0 G id N _ y).mpr (bcase_of (fun h => ?_) hfin))
   have h:=of_decide_eq_true h
   have hnb:(p1.at k).beh ++ List.range' p1.I.length y.j = []:=by
    rw [hspk] at hnil
    exact List.map_eq_nil_iff.1 hnil
   rw [hspk] at hobj
   refine ⟨⟨(p1.at k).op,(p1.at k).fr,.nilslice,qv,.int .i64 (qf:Int)⟩,hobj,by decide,(),rfl,y.c,y.L,p1.spl k y.j,false,rfl,⟨hA,hR,by omega⟩,fun c' L' σ' ⟨h1,h2,h3,h4,h5⟩ => ?_⟩
   have h4:Same y.c c' [.m,.ins,.inp (p1.spl k y.j).I.length]:=h4
   have hkne:k ≠ (p1.spl k y.j).I.length:=by omega
   have hob':c' (.inp k) = some (id,.cells [.bool (p1.at k).op,.bool (p1.at k).fr,.nilslice,qv,.int .i64 (qf:Int)] 159 5 false):=by
    rw [h4 _ (by simpa using hkne),hob,hspk]
   have hobj':=h1.obj hob'
   have hlt':=h1.lt hob'
   obtain ⟨c2,g1,g2,g3,g4⟩:∃ c2:MH,At c2 ((σ'.new (.cells [.int .i64 ((p1.spl k y.j).I.length:Int)] 3 1 true)).set id (.cells [.bool (p1.at k).op,.bool (p1.at k).fr,.rslice σ'.next 0 1,qv,.int .i64 (qf:Int)] 159 5 false)) /\
     c2 (.inp k) = some (id,.cells [.bool (p1.at k).op,.bool (p1.at k).fr,.rslice σ'.next 0 1,qv,.int .i64 (qf:Int)] 159 5 false) /\ c2 (.beh k) = some (σ'.next,.cells [.int .i64 ((p1.spl k y.j).I.length:Int)] 3 1 true) /\ ∀ q,q ≠ .inp k -> q ≠ .beh k -> c2 q = c' q :=
    ⟨_,(h1.new (.beh k) _).set ((hup_ne (by simp)).trans hob') _,hup_self,(hup_ne (by simp)).trans hup_self,fun q q1 q2 => (hup_ne q1).trans (hup_ne q2)⟩
   have g4':Same c' c2 [.inp k,.beh k]:=fun q hq => by simp at hq; exact g4 q hq.1 hq.2
   have hb:SlAt c2 (.beh k) 3 1 (.rslice σ'.next 0 1) (intsV ((p1.at k).beh ++ List.range' p1.I.length y.j ++ [p1.I.length + y.j])):=by
    rw [hnb]
    exact .row σ'.next 1 true _ (by rw [g3,hspl]; rfl) rfl
   refine ⟨rfl,rfl,rfl,rfl,⟨⟨(p1.at k).op,(p1.at k).fr,.nilslice,qv,.int .i64 (qf:Int)⟩,hobj',by decide,(),rfl,rfl⟩,⟨by decide,by decide⟩,rfl,⟨(p1.at k).op,(p1.at k).fr,.nilslice,qv,.int .i64 (qf:Int)⟩,?_,by decide,⟨_,c2,L',p1,y.j + 1⟩,⟨?_,hμ (by omega)⟩,by rw [<-h2],rfl,rfl,by rw [w1],.refl _⟩
   ·rw [objs_new,if_neg (by omega)]; exact hobj'
   ·rcases key c' L' σ' h1 h2 h3 h4 h5 _ c2 _ g1 g2 hb g4' with h | h
    ·exact h
    ·omega
  ·rw [intsV_len,Nat.mul_one,hspk] at hbl
   replace hbl:((p1.at k).beh ++ List.range' p1.I.length y.j).length = nb:=hbl
   refine wpX_ok (H42_ok hG) (EV_mixed B w0 G) (L:=fun _ _ _ _ => False) _ _ _ _ (fun p hp hc Q a σ k => k.elim) (by kernel_rfl) ((vc42r B w0 G id N _ y).mpr (bcase_of (fun h => ?_) hfin))
   have h:=of_decide_eq_true h
   rw [hspk] at hobj hbs'
   refine ⟨⟨(p1.at k).op,(p1.at k).fr,.rslice bid 0 nb,qv,.int .i64 (qf:Int)⟩,hobj,by decide,⟨bid,nb⟩,rfl,y.c,y.L,p1.spl k y.j,false,rfl,⟨hA,hR,by omega⟩,fun c' L' σ' ⟨h1,h2,h3,h4,h5⟩ => ?_⟩
   have h4:Same y.c c' [.m,.ins,.inp (p1.spl k y.j).I.length]:=h4
   have hkne:k ≠ (p1.spl k y.j).I.length:=by omega
   have hob':c' (.inp k) = some (id,.cells [.bool (p1.at k).op,.bool (p1.at k).fr,.rslice bid 0 nb,qv,.int .i64 (qf:Int)] 159 5 false):=by
    rw [h4 _ (by simpa using hkne),hob,hspk]
   have hbs2:c' (.beh k) = some (bid,.cells (intsV ((p1.at k).beh ++ List.range' p1.I.length y.j)) 3 1 g):=by
    rw [h4 _ (by simp),hbs']
   have hobj':=h1.obj hob'
   have hlt':=h1.lt hob'
   have hbo:=h1.obj hbs2
   have hne:id ≠ bid:=h1.ne hob' hbs2 (by simp)
   have hnbl:nb <= 64:=by
    rw [hb1,List.nil_append,List.length_range'] at hbl
    omega
   obtain ⟨σ2,hσ2,c2,g1,g2,g3,g4⟩:∃ σ2:State,σ2 = (((σ'.set bid .dead).new (.cells (intsV ((p1.at k).beh ++ List.range' p1.I.length y.j) ++ [.int .i64 ((p1.spl k y.j).I.length:Int)]) 3 1 true)).set id (.cells [.bool (p1.at k).op,.bool (p1.at k).fr,.rslice σ'.next 0 (nb + 1),qv,.int .i64 (qf:Int)] 159 5 false)) /\ ∃ c2:MH,At c2 σ2 /\
     c2 (.inp k) = some (id,.cells [.bool (p1.at k).op,.bool (p1.at k).fr,.rslice σ'.next 0 (nb + 1),qv,.int .i64 (qf:Int)] 159 5 false) /\ c2 (.beh k) = some (σ'.next,.cells (intsV ((p1.at k).beh ++ List.range' p1.I.length y.j) ++ [.int .i64 ((p1.spl k y.j).I.length:Int)]) 3 1 true) /\ ∀ q,q ≠ .inp k -> q ≠ .beh k -> c2 q = c' q :=
    ⟨_,rfl,_,(h1.grow hbs2 _).set ((hup_ne (by simp)).trans hob') _,hup_self,(hup_ne (by simp)).trans hup_self,fun q q1 q2 => (hup_ne q1).trans (hup_ne q2)⟩
   have g4':Same c' c2 [.inp k,.beh k]:=fun q hq => by simp at hq; exact g4 q hq.1 hq.2
   have hb:SlAt c2 (.beh k) 3 1 (.rslice σ'.next 0 (nb + 1)) (intsV ((p1.at k).beh ++ List.range' p1.I.length y.j ++ [p1.I.length + y.j])):=by
    rw [intsV_append]
    refine .row σ'.next (nb + 1) true _ (by rw [g3,hspl]; rfl) ?_
    rw [List.length_append,intsV_len,hbl]; show nb + 1 = _; omega
   have htk:List.take (nb * 1) (intsV ((p1.at k).beh ++ List.range' p1.I.length y.j)) = intsV ((p1.at k).beh ++ List.range' p1.I.length y.j):=List.take_of_length_le (by rw [intsV_len]; omega)
   refine ⟨rfl,rfl,rfl,rfl,⟨⟨(p1.at k).op,(p1.at k).fr,.rslice bid 0 nb,qv,.int .i64 (qf:Int)⟩,hobj',by decide,⟨bid,nb⟩,rfl,rfl⟩,⟨intsV ((p1.at k).beh ++ List.range' p1.I.length y.j),g⟩,hbo,⟨rfl,⟨by show (nb + 1) * 8 <= _; omega,by show nb + 1 <= _; omega⟩,by rw [intsV_len]; show nb * 1 <= _; omega⟩,rfl,⟨(p1.at k).op,(p1.at k).fr,.rslice bid 0 nb,qv,.int .i64 (qf:Int)⟩,?_,by decide,⟨σ2,c2,L',p1,y.j + 1⟩,⟨?_,hμ (by omega)⟩,by rw [<-h2],rfl,rfl,by rw [w1],?_⟩
   ·rw [objs_new,next_set,if_neg (by omega),objs_set,if_neg hne]; exact hobj'
   ·rcases key c' L' σ' h1 h2 h3 h4 h5 _ c2 _ g1 g2 hb g4' with h | h
    ·exact h
    ·omega
   ·show σ2.Le _
    rw [hσ2]
    dsimp only
    rw [htk]
    exact .refl _
 ·cases e with
  | exit i =>
   match i,kk with
   | 1,kk => exact ⟨_,_,(atF_ok kk.2).1,(atF_ok kk.2).2,hQ y hI (by have:=(show I42 c1 M p1 k id N y from hI).j; have:=kk.1; omega)⟩
  | normal => exact absurd rfl hne
  | _ => exact kk.elim
end
end Go.V
/- The methods of a merger: Split. -/
namespace Go.V
open Go Go.Proofs

section
variable {B:Nat} {w0:World} {G:Nat -> AV}
variable (hG:∀ i,NoId (G i))
include hG

theorem c42_ok:ContractOk (EV B w0 G) 42 C42r:=by
 rintro args σ Q ⟨c,M,m,i,n,rfl,⟨hA,L,p,rfl,hR,hP,hW⟩,hQ⟩
 have ho:=hP.a.opened i
 have hwk:=hW.w.work
 have hpw:=hP.a.work
 have hcnt:=hP.count
 have hol:=opens_le m
 have hlen:=hW.w.len
 have hids:L.ids.length = m.I.length:=hR.len.trans hP.a.len
 have hplen:=hP.a.len
 have hM:=hR.obM hA
 have herr:∀ e:Int,m.split i n = (m,[],e) -> ∃ v' σ'',Wk (.tuple [.nilslice,.int .i64 e]) v' /\ σ''.Le σ /\ Q v' σ'':=fun e he => by
  rw [he] at hQ
  exact ⟨_,σ,Wk.tuple (.cons (Wk.nil 1) (.refl _)),.refl σ,hQ c σ ⟨hA,⟨L,p,rfl,hR,hP,hW⟩,.refl _⟩⟩
 refine ACalls.post_wk ?_
 by_cases hn:n < 0 \/ 64 < n
 ·have hs:m.opened i ≠ none -> m.split i n = (m,[],1):=fun h => by
   unfold RM.split
   cases ho:m.opened i with
   | none => exact absurd ho h
   | some k => dsimp only; rw [if_pos hn]
  refine bodyX_ok (EV_mixed B w0 G) (H42_ok hG) (L:=T42 n (fun _ _ => False) (fun _ _ => False)) (fun l hl _ Q a σ k => by obtain ⟨_,_,h,_⟩:=k; exact h.elim) ((vc42 B w0 G σ L.M i n _ _ _).mpr ?_)
  refine ⟨c,L,p,i,rfl,⟨hA,hR⟩,fun hno => herr 90 (by rw [ho] at hno; unfold RM.split; rw [hno]),fun k id hk hid => bcase_of (fun _ => herr 1 (hs (by rw [<-ho,hk]; simp))) (fun h => bcase_of (fun _ => herr 1 (hs (by rw [<-ho,hk]; simp))) (fun h2 => ?_))⟩
  have h:=of_decide_eq_false h
  have h2:=of_decide_eq_false h2
  omega
 obtain ⟨N,rfl⟩:∃ N:Nat,n = (N:Int):=⟨n.toNat,by omega⟩
 have hN:N <= 64:=by omega
 cases hopn:m.opened i with
 | none =>
  refine bodyX_ok (EV_mixed B w0 G) (H42_ok hG) (L:=T42 N (fun _ _ => False) (fun _ _ => False)) (fun l hl _ Q a σ k => by obtain ⟨_,_,h,_⟩:=k; exact h.elim) ((vc42 B w0 G σ L.M i N _ _ _).mpr ?_)
  exact ⟨c,L,p,i,rfl,⟨hA,hR⟩,fun hno => herr 90 (by rw [ho] at hno; unfold RM.split; rw [hno]),fun k id hk hid => by rw [ho,hopn] at hk; cases hk⟩
 | some k =>
  obtain ⟨_,hkl,hop⟩:=opened_some hopn
  have hkids:k < L.ids.length:=by omega
  have hop1:=op_le hop
  obtain ⟨iid,ig,hiv,hins⟩:=hR.ids_ne hkids
  have w0':IntKind.wrap .i64 ((L.ids.length:Int) + (N:Int)) = ((L.ids.length + N:Nat):Int):=by rw [wr_small (by omega) (by omega)]; omega
  by_cases hbig:4096 < m.I.length + N
  ·refine bodyX_ok (EV_mixed B w0 G) (H42_ok hG) (L:=T42 N (fun _ _ => False) (fun _ _ => False)) (fun l hl _ Q a σ k => by obtain ⟨_,_,h,_⟩:=k; exact h.elim) ((vc42 B w0 G σ L.M i N _ _ _).mpr ?_)
   refine ⟨c,L,p,i,rfl,⟨hA,hR⟩,fun hno => (by rw [ho,hopn] at hno; cases hno),fun k' id' hk' hid' => bcase_of (fun h => ?_) (fun h => bcase_of (fun h2 => ?_) (fun h2 => ?_))⟩
   ·have h:=of_decide_eq_true h; omega
   ·have h2:=of_decide_eq_true h2; omega
   refine ⟨⟨L.iv,L.tv,.int .i64 (L.tf:Int),p.came,p.gone,p.work,p.count⟩,hM,by decide,⟨iid,L.ids.length⟩,hiv,bcase_of (fun h3 => herr 2 ?_) (fun h3 => ?_)⟩
   ·unfold RM.split
    rw [hopn]
    dsimp only
    rw [if_neg hn,if_pos (by omega)]
   ·dsimp only at h3
    rw [w0'] at h3
    have h3:=of_decide_eq_false h3
    omega
  have hsplit:m.split i N = (((m.shut k).split1 k N).fresh,List.range' m.I.length N,0):=by
   unfold RM.split
   rw [hopn]
   dsimp only
   rw [if_neg hn,if_neg (by omega),Int.toNat_natCast]
  rw [hsplit] at hQ
  -- how the loop begins
  let p1:PM:={ p.setI k { p.at k with op:=false } with count:=p.count - 1 + N,work:=p.work + 1 + N }
  have hp1l:p1.I.length = p.I.length:=List.length_set
  have hp1k:k < p1.I.length:=by omega
  have hp1at:p1.at k = { p.at k with op:=false }:=by
   rw [PM.set_at (p:=p1) (I:=p.I) rfl (by omega),if_pos rfl]
  have hb1:(p1.at k).beh = []:=by rw [hp1at]; exact open_kids hP.a hW.w hkl hop
  obtain ⟨⟨hA0,hW0⟩,hsa⟩:=split_abs (p1:=p1.spl k N) hP hW hkl hop (by omega) (n:=N) (by
   show (p1.I ++ List.replicate N (⟨true,false,[],[]⟩:PI)).set k { p1.at k with beh:=(p1.at k).beh ++ List.range' p1.I.length N } = _
   rw [hp1at,hp1l]
   show (p.I.set k _ ++ List.replicate N (⟨true,false,[],[]⟩:PI)).set k _ = _
   rw [<-List.set_append_left k _ (by omega),List.set_set]) rfl rfl rfl rfl rfl
  have hT:=hA0.T
  have hsl:(m.shut k).I.length = m.I.length:=List.length_set
  rw [split1_len,hsl] at hT
  have htl:=nd_len hW0
  rw [split1_len,hsl] at htl
  refine bodyX_ok (EV_mixed B w0 G) (H42_ok hG) (L:=T42 N (fun id y => ∃ c1,Frame' c c1 /\ I42 c1 L.M p1 k id N y) (fun id y => ∃ c1,Frame' c c1 /\ I42 c1 L.M p1 k id N y /\ y.j = N)) (fun l hl _ Q a σ kk => ?_) ((vc42 B w0 G σ L.M i N _ _ _).mpr ?_)
  ·change l ∈ fnParts Tryz.prog [] 42 at hl
   rw [fnParts_42] at hl
   simp only [List.mem_cons,List.not_mem_nil,or_false] at hl
   subst hl
   obtain ⟨id,y,⟨c1,hx,hI⟩,ha,hq⟩:=kk
   exact loop42 hG hp1k (by omega) hN hb1 hI Q a σ ha fun y' h1 h2 => hq y' ⟨c1,hx,h1,h2⟩
  refine ⟨c,L,p,i,rfl,⟨hA,hR⟩,fun hno => (by rw [ho,hopn] at hno; cases hno),fun k' id hk' hid => bcase_of (fun h => ?_) (fun h => bcase_of (fun h2 => ?_) (fun h2 => ?_))⟩
  ·have h:=of_decide_eq_true h; omega
  ·have h2:=of_decide_eq_true h2; omega
  have hkk:k' = k:=by rw [ho,hopn] at hk'; cases hk'; rfl
  subst hkk
  refine ⟨⟨L.iv,L.tv,.int .i64 (L.tf:Int),p.came,p.gone,p.work,p.count⟩,hM,by decide,⟨iid,L.ids.length⟩,hiv,bcase_of (fun h3 => ?_) (fun h3 => ?_)⟩
  ·dsimp only at h3
   rw [w0'] at h3
   have h3:=of_decide_eq_true h3
   omega
  refine ⟨c,L,p,k',id,rfl,⟨hA,hR,hid,by omega,by omega,by omega⟩,fun c1 σ1 ⟨hA1,hR1,hs1⟩ => ?_⟩
  have hs1:Same c c1 [.m,.inp k']:=hs1
  have hM1:=hR1.obM hA1
  have w1:IntKind.wrap .i64 (((p.work + 1:Nat):Int) + (N:Int)) = ((p.work + 1 + N:Nat):Int):=by rw [wr_small (by omega) (by omega)]; omega
  have w2:IntKind.wrap .i64 (((p.count - 1:Nat):Int) + (N:Int)) = ((p.count - 1 + N:Nat):Int):=by rw [wr_small (by omega) (by omega)]; omega
  refine ⟨⟨L.iv,L.tv,.int .i64 (L.tf:Int),p.came,p.gone,p.work + 1,p.count - 1⟩,hM1,by decide,⟨L.iv,L.tv,.int .i64 (L.tf:Int),p.came,p.gone,p.work + 1,p.count - 1⟩,hM1,by decide,⟨L.iv,L.tv,.int .i64 (L.tf:Int),p.came,p.gone,p.work + 1 + N,p.count - 1⟩,?_,by decide,⟨L.iv,L.tv,.int .i64 (L.tf:Int),p.came,p.gone,p.work + 1 + N,p.count - 1⟩,?_,by decide,?_⟩
  ·rw [objs_set,if_pos rfl,w1]
  ·rw [objs_set,if_pos rfl,w1]
  have hR3:=hR1.setM (p':={ p.setI k' { p.at k' with op:=false } with count:=p.count - 1,work:=p.work + 1 + N }) rfl rfl
  have hA3:=hA1.set hR1.m (.cells [L.iv,L.tv,.int .i64 (L.tf:Int),.int .i64 (p.came:Int),.int .i64 (p.gone:Int),.int .i64 ((p.work + 1 + N:Nat):Int),.int .i64 ((p.count - 1:Nat):Int)] 153 7 false)
  have hR4:=hR3.setM (p':=p1) rfl rfl
  have hA4:=hA3.set hR3.m (.cells [L.iv,L.tv,.int .i64 (L.tf:Int),.int .i64 (p.came:Int),.int .i64 (p.gone:Int),.int .i64 ((p.work + 1 + N:Nat):Int),.int .i64 ((p.count - 1 + N:Nat):Int)] 153 7 false)
  have hx4:Frame' c (hup (hup c1 .m (some (L.M,.cells (mcells L { p.setI k' { p.at k' with op:=false } with count:=p.count - 1,work:=p.work + 1 + N }) 153 7 false))) .m (some (L.M,.cells (mcells L p1) 153 7 false))):=fun i => by
   rw [hup_ne (by simp),hup_ne (by simp)]
   exact (hs1.frame (by intro q hq; simp at hq; rcases hq with rfl | rfl <;> rfl)) i
  have hI0:=spl_zero hp1k
  refine ⟨id,⟨_,_,L,p1,0⟩,⟨_,hx4,hA4,by show Rep _ L (p1.spl k' 0); rw [hI0]; exact hR4,rfl,hid,Nat.zero_le _,.refl _⟩,⟨rfl,rfl,rfl,rfl,?_⟩,fun y ⟨c2,hx,hI,hj⟩ => ?_⟩
  ·dsimp only
   rw [w1,w2]
   exact .refl _
  have hAy:=hI.at_
  have hRy:=hI.rep
  rw [hj] at hRy
  obtain ⟨hkl2,hke2⟩:=List.getElem?_eq_some_iff.1 hI.idk
  obtain ⟨bv,qv,qf,hob,hbs,hq⟩:=(hRy.inp k' hkl2).ex
  rw [hke2] at hob
  have hspk:((p1.spl k' N).at k').beh = List.range' m.I.length N:=by
   rw [spl_at hp1k]
   show (p1.at k').beh ++ _ = _
   rw [hb1,hp1l,hplen,List.nil_append]
  rw [hspk] at hbs
  refine ⟨⟨_,_,bv,qv,.int .i64 (qf:Int)⟩,hAy.obj hob,by decide,y.c,bv,List.range' m.I.length N,rfl,⟨hAy,?_,by rw [List.length_range']; omega⟩,fun σ5 hA5 => ?_⟩
  ·rcases hbs.inv with ⟨e,hnil⟩ | ⟨bid,nb,g,e,hs,hbl⟩
   ·exact .inl ⟨e,List.map_eq_nil_iff.1 hnil⟩
   ·refine .inr ⟨bid,0,nb,_,g,e,hAy.obj hs,by omega,?_⟩
    rw [List.drop_zero,List.take_of_length_le (by omega)]
  refine ⟨y.c,y.L,p1.spl k' N,k',id,rfl,⟨hA5,hRy,hI.idk,hA0.ok hW0,by omega,by show p.turn.length <= _; have:=congrArg List.length hP.a.turn; have:=nd_len hW.w; omega⟩,fun c6 L6 p6 σ6 ⟨hA6,⟨hM6,hids6⟩,hR6,hF,hx6⟩ => ?_⟩
  obtain ⟨k1,k2⟩:=hsa p6 hF
  exact ⟨_,σ6,Wk.refl _,.refl σ6,hQ c6 σ6 ⟨hA6,⟨L6,p6,hM6.trans hI.M,hR6,k1,k2⟩,hx.trans (hI.xs.trans hx6)⟩⟩
end
end Go.V
/- The methods of a merger: Inputs. -/
namespace Go.V
open Go Go.Proofs

def PM.inp (p:PM) (j:Nat):List Nat:=(List.range j).filter fun i => (p.at i).op
theorem Rep.frame {c c':MH} {L:ML} {p:PM} (h:Rep c L p) {l:List MRole} (hs:Same c c' l) (hl:∀ q ∈ l,q = .todo \/ q = .now \/ ∃ i,q = .x i):Rep c' L p:=by
 have hno:∀ q:MRole,(q ≠ .todo /\ q ≠ .now /\ ∀ i,q ≠ .x i) -> q ∉ l:=fun q ⟨h1,h2,h3⟩ hq => by
  rcases hl q hq with e | e | ⟨i,e⟩
  ·exact h1 e
  ·exact h2 e
  ·exact h3 i e
 exact h.upd ((hs _ (hno _ (by simp))).trans h.m) rfl rfl (hs _ (hno _ (by simp))) (h.turn.congr (hs _ (hno _ (by simp)))) rfl fun k hk => (h.inp k hk).congr (hs _ (hno _ (by simp))) (hs _ (hno _ (by simp))) (hs _ (hno _ (by simp)))
section
variable {B:Nat} {w0:World} {G:Nat -> AV}

end
end Go.V
