/- A part of the proof of the statement S8 (texts brought together and shortened by a program of this work). -/
import Derived.Test.YtgnjidopnplbbaaGreatDoorQ2
set_option linter.unusedSimpArgs false
set_option linter.unusedVariables false
namespace Go.V
open Go.RowKit

section
variable {E:Env} {n:Nat} {R0:Nat->Option Obj} {loc:Nat->Option Nat} {g:zA2} {σ:zA6} {w:World} {a:zDN} {act:Act}
def zGD (σ:zA6) (id:Nat):Option zA4:=match σ.objs id with
 | .loop l=>some l
 | _=>none

theorem zGE {id:Nat} {l:zA4} (h:zGD σ id=some l):σ.objs id = .loop l:=by
 unfold zGD at h
 split at h
 ·rename_i l' e; cases h; exact e
 ·cases h

def zGF (id:Nat) (Q:AV->zA6->Prop) (e:Exit) (_:zDN) (σ:zA6):Prop :=
 match zGD σ id with
 | none=>False
 | some l=>match e with
  | .normal=>Q (.bool true) (σ.set id (.loop { l with st:=.ready,pend:=none }))
  | .ret=>Q (.bool false) (σ.set id (.loop { l with st:=.done,pend:=some .ret }))
  | .exit k=>Q (.bool false) (σ.set id (.loop { l with st:=.done,pend:=some (.exit k) }))
  | _=>False

def zGG (E:Env) (id:Nat) (n:Nat) (body:Code) (Q:AV->zA6->Prop) (e:Exit) (a:zDN) (σ:zA6):Prop :=
 match e with
 | .normal=>match zGD σ id with
  | none=>False
  | some l=>l.st = .ready/\AWp E (some id) n body (zGF id Q) a (σ.set id (.loop { l with st:=.busy }))
 | _=>False

def zGH (l:zA4) (args:List AV):zDN :=
 { t:=fun t => .v ((((l.ps.zip args).reverse.find? fun p=>p.1==t).map (·.2)).getD (l.tm t)),l:=fun _=>[] }

theorem Sim.setLoop (hS:Sim E.B E.w0 g σ w) {id:Nat} {i:zA1} {l l':zA4} {r r':Loop} (ho:σ.objs id = .loop l) (hi:g.info id=some i) (hr:w.heap[i.blk]? = some (.loop r))
  (h1:r'.tmps.size=l'.n) (h2:∀ t,RV g (l'.tm t) (r'.tmps.getD t undef)) (h3:r'.params.toList=l'.ps) (h4:r'.assign=l'.assign) (h5:r'.body=l'.body) (h6:r'.state=l'.st) (h7:r'.pending=l'.pend) :
  Sim E.B E.w0 g (σ.set id (.loop l')) { w with heap:=w.heap.setIfInBounds i.blk (.loop r') }:=by
 have hob:=hS.objs id
 rw [ho] at hob
 obtain ⟨i',r0,k1,k2,k3,_⟩:=hob
 rw [hi] at k1; cases k1
 have hlt:i.blk<w.heap.size:=(Array.getElem?_eq_some_iff.1 hr).1
 refine hS.write (w':={ w with heap:=w.heap.setIfInBounds i.blk (.loop r') }) hi (by rw [ho]; simp) ?_ rfl rfl rfl (by simp) (fun b hb=>by simp [Array.getElem?_setIfInBounds_ne (Ne.symm hb)]) (.loop l')
  ⟨i,r',hi,k2,by simp [hlt],h1,h2,h3,h4,h5,h6,h7⟩
 intro o
 cases hv:g.F i.blk o with
 | none=>rfl
 | some v=>have:=hS.froz _ _ _ hv; simp [World.cell?,hr] at this

theorem zGI {P:Program} {b:Nat} {r:Loop} (h:w.heap[b]? = some (.loop r)):(Instr.getLoop b).run P w = .ok r w:=by
 simp [Instr.getLoop,getObj,Sem.run_bind,Sem.run,h]

theorem zGJ {P:Program} {b:Nat} {r r':Loop} (h:w.heap[b]? = some (.loop r)):(setObj b (.loop r')).run P w = .ok () { w with heap:=w.heap.setIfInBounds b (.loop r') }:=by
 simp [setObj,Sem.run,h]

theorem zGK {P:Program} {b:Nat} {r:Loop} {j:Option Code} (h:w.heap[b]? = some (.loop r)) :
  (Instr.endRound b j).run P w = .ok (.bool j.isNone) { w with heap:=w.heap.setIfInBounds b (.loop { r with state:=if j.isNone then .ready else .done,pending:=j }) }:=by
 unfold Instr.endRound
 rw [Sem.run_bind,zGI h,Result.andThen_ok,Sem.run_bind,zGJ h]
 rfl

theorem zGL {P:Program} {b:Nat} {r:Loop} (h:w.heap[b]? = some (.loop r)) (hr:r.state = .ready) :
  (Instr.beginRound b).run P w = .ok () { w with heap:=w.heap.setIfInBounds b (.loop { r with state:=.busy }) }:=by
 unfold Instr.beginRound
 rw [Sem.run_bind,zGI h,Result.andThen_ok,Sem.run_bind,zGJ h,Result.andThen_ok,hr]
 rfl

theorem zGM {id:Nat} {args:List AV} {Q:AV->zA6->Prop} {l:zA4} (ho:σ.objs id = .loop l) (hlen:args.length=l.ps.length) (hps:l.ps.all (·<l.n)=true)
  (h:AWp E (some id) l.n l.assign (zGG E id l.n l.body Q) (zGH l args) σ):zDZ E id args σ Q:=by
 refine ⟨fun g w vs i rd F hF hG hS hi hv => ?_⟩
 have hob:=hS.objs id
 rw [ho] at hob
 obtain ⟨i',r,k1,k2,k3,k4,k5,k6,k7,k8,k9,k10⟩:=hob
 rw [hi] at k1; cases k1
 refine ⟨r.fn,(r.params.zip vs).foldl (fun tmps (t,a)=>tmps.setIfInBounds t a) r.tmps,r.assign,r.body,?_,?_⟩
 ·have hsz:vs.size=r.params.size:=by
   have h1:=hv.1
   have h2:r.params.toList.length=l.ps.length:=by rw [k6]
   simp only [Array.length_toList] at h1 h2
   omega
  unfold Instr.yield
  rw [Sem.run_bind,zGI k3,Result.andThen_ok]
  simp [hsz,Sem.run_pure]
 ·have hX:zDT g (some id) (Fence.wide.inRound i.blk):=⟨i,hi,rfl⟩
  have hkey:RoundIn Fence.wide 0 E.P i.blk r.fn ((r.params.zip vs).foldl (fun tmps (t,a)=>tmps.setIfInBounds t a) r.tmps) r.assign r.body w (zDS E g Q):=by
   refine roundIn_of_wpIn trivial ?_
   rw [k7]
   have hfold:∀ (ps:List Nat) (vs:List Value) (as:List AV) (tm:Nat->AV) (ts:Array Value),ts.size=l.n->(∀ t,RV g (tm t) (ts.getD t undef))->RVL g as vs->as.length=ps.length->ps.all (·<l.n)=true ->
     ((ps.zip vs).foldl (fun (tmps:Array Value) p=>tmps.setIfInBounds p.1 p.2) ts).size=l.n/\∀ t,RV g ((((ps.zip as).reverse.find? fun p=>p.1==t).map (·.2)).getD (tm t)) (((ps.zip vs).foldl (fun (tmps:Array Value) p=>tmps.setIfInBounds p.1 p.2) ts).getD t undef):=by
    intro ps
    induction ps with
    | nil=>intro vs as tm ts h1 h2 h3 h4 _; exact ⟨h1,h2⟩
    | cons p ps ih =>
     intro vs as tm ts h1 h2 h3 h4 h5
     cases as with
     | nil=>simp at h4
     | cons x as =>
      obtain ⟨v,vs',rfl,h6,h7⟩:=h3.cons_inv
      simp only [List.all_cons,Bool.and_eq_true,decide_eq_true_eq] at h5
      have hstep:=ih vs' as (fun t=>if t=p then x else tm t) (ts.setIfInBounds p v) (by simp [h1]) (fun t => ?_) h7 (by simpa using h4) h5.2
      ·refine ⟨hstep.1,fun t => ?_⟩
       have h8:=hstep.2 t
       simp only [List.zip_cons_cons,List.foldl_cons,List.reverse_cons,List.find?_append,List.find?_cons,List.find?_nil] at h8 ⊢
       cases hf:(ps.zip as).reverse.find? fun p=>p.1==t with
       | some y=>rw [hf] at h8; simpa using h8
       | none =>
        rw [hf] at h8
        simp only [Option.map_none,Option.getD_none,Option.none_or] at h8 ⊢
        by_cases e:t=p
        ·subst e; simpa using h8
        ·have:(p==t)=false:=by simp; exact fun h=>e h.symm
         rw [if_neg e] at h8
         rw [this]; simpa using h8
      ·by_cases e:t=p
       ·subst e
        have:t<ts.size:=by rw [h1]; exact h5.1
        simpa [Array.getD_eq_getD_getElem?,this] using h6
       ·rw [if_neg e]
        have:=h2 t
        simpa [Array.getD_eq_getD_getElem?,Array.getElem?_setIfInBounds_ne (Ne.symm e)] using this
   have hf:=hfold l.ps vs.toList args l.tm r.tmps k4 k5 hv hlen hps
   have hfe:(r.params.zip vs).foldl (fun tmps (t,a)=>tmps.setIfInBounds t a) r.tmps=(l.ps.zip vs.toList).foldl (fun (tmps:Array Value) p=>tmps.setIfInBounds p.1 p.2) r.tmps:=by
    rw [<-Array.foldl_toList,Array.toList_zip,k6]
   rw [hfe]
   have hT:Fr l.n g.R E.B g (fun _=>none) (zGH l args) { tmps:=(l.ps.zip vs.toList).foldl (fun (tmps:Array Value) p=>tmps.setIfInBounds p.1 p.2) r.tmps,defers:=[] } :=
    ⟨hf.1,trivial,fun t=>hf.2 t,(fun k b hk=>by cases hk),(fun k j b hk=>by cases hk),fun b o hb=>hb⟩
   refine wpIn_mono (h.run g w _ (fun _=>none) g.R _ hX hG hS hT) fun e act1 w1 k => ?_
   cases e with
   | normal =>
    obtain ⟨g1,a1,σ1,loc1,q1,q2,q3,q4⟩:=k
    simp only [zGG] at q4
    cases hl1:zGD σ1 id with
    | none=>rw [hl1] at q4; exact q4.elim
    | some l1 =>
     rw [hl1] at q4
     obtain ⟨q4,q5⟩:=q4
     have ho1:=zGE hl1
     have hob1:=q2.objs id
     rw [ho1] at hob1
     obtain ⟨i1,r1,m1,m2,m3,m4,m5,m6,m7,m8,m9,m10⟩:=hob1
     have hi1:=q1.info _ _ hi
     rw [hi1] at m1; cases m1
     refine ⟨_,zGL m3 (by rw [m9,q4]),?_⟩
     rw [k8]
     have hS1:=Sim.setLoop (l':={ l1 with st:=.busy }) (r':={ r1 with state:=.busy }) q2 ho1 hi1 m3 m4 m5 m6 m7 m8 rfl m10
     refine wpIn_mono (q5.run g1 _ act1 loc1 g.R _ ⟨i,hi1,rfl⟩ (hG.monoX q1) hS1 q3) fun e act2 w2 k => ?_
     have fin:∀ (e:Exit) {j:Option Code} {st:LoopState} {v:AV} {g2:zA2} {a2:zDN} {σ2:zA6} {loc2:Nat->Option Nat} {l2:zA4},g1.LeX g2->Sim E.B E.w0 g2 σ2 w2->Fr l.n g.R E.B g2 loc2 a2 act2->zGD σ2 id=some l2 ->
       st=(if j.isNone then LoopState.ready else .done)->v = .bool j.isNone->Q v (σ2.set id (.loop { l2 with st:=st,pend:=j })) ->
       ∃ u w',(Instr.endRound i.blk j).run E.P w2 = .ok u w'/\zDS E g Q (.returned u) w':=by
      intro e j st v g2 a2 σ2 loc2 l2 p1 p2 p3 p4 p5 p6 p7
      have ho2:=zGE p4
      have hob2:=p2.objs id
      rw [ho2] at hob2
      obtain ⟨i2,r2,n1,n2,n3,n4,n5,n6,n7,n8,n9,n10⟩:=hob2
      have hi2:=p1.info _ _ hi1
      rw [hi2] at n1; cases n1
      refine ⟨_,_,zGK n3,?_⟩
      have hS2:=Sim.setLoop (l':={ l2 with st:=st,pend:=j }) (r':={ r2 with state:=if j.isNone then .ready else .done,pending:=j }) p2 ho2 hi2 n3 n4 n5 n6 n7 n8 p5.symm rfl
      have hle:=q1.trans p1
      exact ⟨{ g2 with R:=g.R },_,v,⟨hle.F,hle.info,rfl⟩,hS2.lessR p3.sub,by subst p6; exact RV.bool _,p7⟩
     cases e with
     | normal =>
      obtain ⟨g2,a2,σ2,loc2,p1,p2,p3,p4⟩:=k
      simp only [zGF] at p4
      cases hl2:zGD σ2 id with
      | none=>rw [hl2] at p4; exact p4.elim
      | some l2=>rw [hl2] at p4; exact fin .normal (j:=none) p1 p2 p3 hl2 rfl rfl p4
     | ret =>
      obtain ⟨g2,a2,σ2,loc2,p1,p2,p3,p4⟩:=k
      simp only [zGF] at p4
      cases hl2:zGD σ2 id with
      | none=>rw [hl2] at p4; exact p4.elim
      | some l2=>rw [hl2] at p4; exact fin .ret (j:=some .ret) p1 p2 p3 hl2 rfl rfl p4
     | exit x =>
      obtain ⟨g2,a2,σ2,loc2,p1,p2,p3,p4⟩:=k
      simp only [zGF] at p4
      cases hl2:zGD σ2 id with
      | none=>rw [hl2] at p4; exact p4.elim
      | some l2=>rw [hl2] at p4; exact fin (.exit x) (j:=some (.exit x)) p1 p2 p3 hl2 rfl rfl p4
     | goto x =>
      obtain ⟨g2,a2,σ2,loc2,p1,p2,p3,p4⟩:=k
      simp only [zGF] at p4
      split at p4 <;> exact p4.elim
     | panic c=>exact k.elim
     | outgrown=>exact k.elim
   | ret=>obtain ⟨g1,a1,σ1,loc1,q1,q2,q3,q4⟩:=k; exact q4.elim
   | exit x=>obtain ⟨g1,a1,σ1,loc1,q1,q2,q3,q4⟩:=k; exact q4.elim
   | goto x=>obtain ⟨g1,a1,σ1,loc1,q1,q2,q3,q4⟩:=k; exact q4.elim
   | panic c=>exact k.elim
   | outgrown=>exact k.elim
  cases rd with
  | none=>cases hF; exact hkey
  | some x=>obtain ⟨_,_,rfl⟩:=hF; exact hkey
end
end Go.V
namespace Go.V
open Go.RowKit

section
variable {E:Env} {rd:Option Nat} {n:Nat} {R0:Nat->Option Obj} {loc:Nat->Option Nat} {g:zA2} {σ:zA6} {w:World} {a:zDN} {act:Act}
def zGN (id:Nat) (Q:zDW) (a:zDN) (_:AV) (σ:zA6):Prop :=
 match zGD σ id with
 | none=>False
 | some l=>l.st ≠ .busy/\(match l.pend with
  | none=>Q .normal a (σ.set id .dead)
  | some .ret=>Q .ret a (σ.set id .dead)
  | some (.exit k)=>Q (.exit k) a (σ.set id .dead)
  | _=>False)

def zGO (σ:zA6):Option Nat->Prop
 | none=>True
 | some id=>∃ l,zGD σ id=some l

theorem zGP {P:Program} {b:Nat} {r:Loop} (h:w.heap[b]? = some (.loop r)) (hb:r.state ≠ .busy) :
  (Instr.endLoop b).run P w = .ok r.pending { w with heap:=w.heap.setIfInBounds b (.loop { r with state:=.exhausted }) }:=by
 unfold Instr.endLoop
 rw [Sem.run_bind,zGI h,Result.andThen_ok]
 have:(r.state==LoopState.busy)=false:=by simpa using hb
 simp only [this,Bool.false_eq_true,if_false,Sem.run_bind,Sem.run_pure,Result.andThen_ok]
 rw [zGJ h]
 rfl

theorem zGQ {f:Operand} {ps:Array Tmp} {assign body:Code} {Q:zDW} {fi own:Nat} {first cap:List AV}
  (hf:(zDO E.G a f).low = .func (.func fi) first cap) (hb:zBG E.P fi=true) (hrd:zGO σ rd)
  (h:zDV E fi (first++[.yield σ.next]++cap) (σ.new (.loop ⟨n,a.low,ps.toList,assign,body,.ready,none,own⟩)) (zGN σ.next Q a)) :
  AWp E rd n (.rangeFunc f ps assign body) Q a σ:=by
 refine ⟨fun g w act loc R0 F hF hG hS hT=>wpIn_rangeFunc fun fn _ => ?_⟩
 have hv:=(zDQ hG hT f).low
 rw [hf] at hv
 obtain ⟨fs,cs,he,hfs,hcs⟩:=hv.func_inv
 -- the record is laid
 have lay:∃ (l:Nat) (mark:List Deferred) (w₁:World) (g1:zA2) (i:zA1),(Instr.enterLoop fn act.tmps ps assign body F.round).run E.P w = .ok (l,mark) w₁/\g.LeX g1/\g1.info σ.next=some i/\i.blk=l /\
   Sim E.B E.w0 g1 (σ.new (.loop ⟨n,a.low,ps.toList,assign,body,.ready,none,own⟩)) w₁/\Fr n R0 E.B g1 loc a { act with defers:=mark++act.defers }:=by
  have mk:∀ (g0:zA2) (w0:World) (dn:Nat) (mark:List Deferred),g.LeX g0->Sim E.B E.w0 g0 σ w0->Fr n R0 E.B g0 loc a { act with defers:=mark++act.defers } ->
    ∃ g1 i,g.LeX g1/\g1.info σ.next=some i/\i.blk=w0.heap.size/\Sim E.B E.w0 g1 (σ.new (.loop ⟨n,a.low,ps.toList,assign,body,.ready,none,own⟩)) (w0.alloc (.loop { state:=.ready,pending:=none,fn,tmps:=act.tmps,params:=ps,assign,body,defers:=dn })) /\
     Fr n R0 E.B g1 loc a { act with defers:=mark++act.defers }:=by
   intro g0 w0 dn mark hle hS0 hT0
   have hle1:g0.Le (g0.add σ.next ⟨w0.heap.size,0,0⟩):=zA2.le_add (hS0.next _ (Nat.le_refl _)).1 _
   obtain ⟨h1,h2⟩:=hS0.new (.loop ⟨n,a.low,ps.toList,assign,body,.ready,none,own⟩) (.loop { state:=.ready,pending:=none,fn,tmps:=act.tmps,params:=ps,assign,body,defers:=dn }) 0 0
    ⟨⟨w0.heap.size,0,0⟩,_,by simp,hS0.size,zA8 w0 _,hT0.size,fun t=>((hT0.tmp t).low).mono hle1,rfl,rfl,rfl,rfl,rfl⟩
   exact ⟨_,⟨w0.heap.size,0,0⟩,hle.trans h1.x,by simp,rfl,h2,hT0.mono h1⟩
  cases rd with
  | none =>
   cases hF
   have hx:=zA2.leX_setR g w.heap.size (.deferred (some []))
   have hlt:∀ b x,g.R b=some x->b<w.heap.size:=fun b x hb=>(Array.getElem?_eq_some_iff.1 (hS.res b x hb)).1
   have hne:∀ b x,g.R b=some x->(g.setR w.heap.size (.deferred (some []))).R b=some x:=fun b x hb=>by
    show (if b=w.heap.size then _ else g.R b)=_
    rw [if_neg (by have:=hlt b x hb; omega)]; exact hb
   have hT0:Fr n R0 E.B (g.setR w.heap.size (.deferred (some []))) loc a { act with defers:={ target:=.collected w.heap.size,args:=#[] } :: act.defers }:=by
    refine ⟨hT.size,⟨⟨w.heap.size,rfl,hS.size,?_,by simp [zA2.setR],?_⟩,hT.marks.turn fun r hr _=>hne r _ hr⟩,fun t=>(hT.tmp t).mono hx,fun k b hk => ?_,hT.inj,fun b o hb=>hne b o (hT.sub b o hb)⟩
    ·cases hv:R0 w.heap.size with
     | none=>rfl
     | some x=>have:=hT.sub _ _ hv; rw [hS.R_new] at this; cases this
    ·intro d' hd' e
     have:∀ (ds:List Deferred),zDP R0 E.B g ds->∀ d∈ds,d.target ≠ .collected w.heap.size:=by
      intro ds
      induction ds with
      | nil=>intro _ d hd; cases hd
      | cons x ds ih =>
       intro hm d hd
       obtain ⟨⟨r,h1,_,_,h4,_⟩,h6⟩:=hm
       rcases List.mem_cons.1 hd with rfl | hd
       ·rw [h1]; intro e; cases e; have:=hlt _ _ h4; omega
       ·exact ih h6 d hd
     exact this _ hT.marks d' hd' e
    ·obtain ⟨k1,k2,c,e,k3,k4,k5⟩:=hT.cell k b hk
     exact ⟨k1,k2,c,e,hne b _ k3,k4.monoX hx,k5⟩
   obtain ⟨g1,i,h1,h2,h3,h4,h5⟩:=mk _ (w.alloc (.deferred (some []))) w.heap.size [{ target:=.collected w.heap.size,args:=#[] }] hx (hS.newLocal _) hT0
   refine ⟨(w.alloc (.deferred (some []))).heap.size,[{ target:=.collected w.heap.size,args:=#[] }],_,g1,i,?_,h1,h2,h3,h4,h5⟩
   rfl
  | some id =>
   obtain ⟨i0,hi0,rfl⟩:=hF
   obtain ⟨l0,hl0⟩:=hrd
   have hob:=hS.objs id
   rw [zGE hl0] at hob
   obtain ⟨i',r0,k1,k2,k3,_⟩:=hob
   rw [hi0] at k1; cases k1
   obtain ⟨g1,i,h1,h2,h3,h4,h5⟩:=mk g w r0.defers [] (.refl g) hS hT
   refine ⟨w.heap.size,[],_,g1,i,?_,h1,h2,h3,h4,h5⟩
   show (Instr.enterLoop fn act.tmps ps assign body (some i0.blk)).run E.P w=_
   unfold Instr.enterLoop
   simp only [Sem.run_bind,zGI k3,Result.andThen_ok,Sem.run_pure]
   rfl
 obtain ⟨l,mark,w₁,g1,i,h1,h2,h3,h4,h5,h6⟩:=lay
 refine ⟨l,mark,w₁,{ target:=.fn (.func fi) cs,args:=fs++#[.func (.yield l) #[] #[]] },w₁,fi,fs++#[.func (.yield l) #[] #[]]++cs,w₁,h1,?_,fun f' _=>hF.fn f',?_,fun h=>(by rw [hF.depth] at h; cases h),?_⟩
 ·simp only [resolve,rangeCall,he,Deferred.ofValue,Sem.run_bind,Sem.run_pure,Result.andThen_ok]
  have hm:Array.map act.eval #[Operand.const (Value.func (Fn.yield l) #[] #[])]=#[Value.func (Fn.yield l) #[] #[]]:=by simp [Act.eval]
  rw [hm]
 ·simp only [invoke]
  exact zDF hb _ w₁
 ·have hargs:RVL g1 (first++[.yield σ.next]++cap) (fs++#[Value.func (.yield l) #[] #[]]++cs).toList:=by
   simp only [Array.toList_append]
   have hy:RV g1 (.yield σ.next) (Value.func (.yield l) #[] #[]):=by rw [<-h4]; exact .yield _ i h3
   exact ((RVL.monoX h2 hfs).append (RVL.cons hy (.nil g1))).append (RVL.monoX h2 hcs)
  refine hF.calls ((h.run g1 w₁ _ (hG.monoX h2) h5 hargs).mono fun e w₃ k => ?_)
  cases e with
  | returned v =>
   obtain ⟨g2,σ2,r,q1,q2,q3,q4⟩:=k
   simp only [zGN] at q4
   cases hl:zGD σ2 σ.next with
   | none=>rw [hl] at q4; exact q4.elim
   | some l2 =>
    rw [hl] at q4
    obtain ⟨q4,q5⟩:=q4
    have ho:=zGE hl
    have hob:=q2.objs σ.next
    rw [ho] at hob
    obtain ⟨i',r2,m1,m2,m3,m4,m5,m6,m7,m8,m9,m10⟩:=hob
    have hi2:=q1.x.info _ _ h3
    rw [hi2] at m1; cases m1
    have hS2:=Sim.setLoop (l':={ l2 with st:=.exhausted }) (r':={ r2 with state:=.exhausted }) q2 ho hi2 m3 m4 m5 m6 m7 m8 rfl m10
    have hS3:Sim E.B E.w0 g2 (σ2.set σ.next .dead) _:=hS2.forget ⟨rfl,fun j=>by
     by_cases e:j=σ.next
     ·subst e; right; simp [zA6.set]
     ·left; simp [zA6.set,e]⟩
    rw [h4] at m3 hS3
    refine ⟨_,_,zGP m3 (by rw [m9]; exact q4),?_⟩
    have hT2:=h6.mono q1
    have hle:=h2.trans q1.x
    rw [m10] at hS3 ⊢
    cases hp:l2.pend with
    | none=>rw [hp] at q5 hS3; exact ⟨g2,a,_,loc,hle,hS3,hT2,q5⟩
    | some c =>
     rw [hp] at q5 hS3
     cases c <;> simp only at q5 <;> first | exact q5.elim | exact wpIn_ret ⟨g2,a,_,loc,hle,hS3,hT2,q5⟩ | exact wpIn_exit ⟨g2,a,_,loc,hle,hS3,hT2,q5⟩
  | outgrown=>exact k.elim
  | panicked c=>exact k.elim
end
end Go.V
