import Derived.Test.YtgnjidopnplbbaaGreatDoorG3
import Derived.Test.YtgnjidopnplbbaaGreatDoorG4
/- The V-model, part 16: what is run to 'true' holds. -/
set_option linter.unusedSimpArgs false
set_option linter.unusedVariables false
namespace Go.V
open Go.RowKit

def HBOk (E:Env) (H:HandB):Prop:=∀ f args σ Q,H f args σ Q = true -> selfH E f args σ fun v σ' => Q v σ' = true

def holds (K:NextB):Next':=fun a σ => K a σ = true

section
variable {E:Env} {H:HandB} {rd:Option Nat} {n:Nat} {σ:State} {a:AAct} {an:FnAnn} {ann:Ann} {o:Oper} {K:NextB} {ops:Array Oper}

theorem genB_ok (hH:HBOk E H) (h:genB E H ann o K a σ = true):genS E (selfH E) ann o (holds K) a σ:=by
 unfold genB at h
 unfold genS
 split
 ·rename_i hr; rw [hr] at h; exact h
 ·rename_i hr; rw [hr] at h; exact hH _ _ _ _ h
 ·rename_i hr; rw [hr] at h; cases h
 ·rename_i hr; rw [hr] at h; cases h

theorem newB_ok {cs:List AV} {gen:Bool} {gen':Prop} (hg:gen = true -> gen') (h:newB ann o cs K gen a σ = true):newS ann o cs (holds K) gen' a σ:=by
 unfold newB at h
 unfold newS
 split
 ·rename_i d hd
  simp only [hd,Bool.and_eq_true] at h
  exact h
 ·rename_i hne
  split at h
  ·rename_i d hd; exact absurd hd (hne d rfl)
  ·exact hg h

theorem goB_ok (hH:HBOk E H) (k:goB E H ann o K a σ = true):goS E (selfH E) ann o (holds K) a σ:=by
 have hg:genB E H ann o K a σ = true -> genS E (selfH E) ann o (holds K) a σ:=genB_ok hH
 unfold goB at k
 unfold goS
 cases ho:o.op with
 | alloc e =>
  simp only [ho] at k ⊢
  split
  ·rename_i z hz; simp only [hz] at k; exact newB_ok hg k
  ·rename_i hz; simp only [hz] at k; cases k
 | box e x =>
  simp only [ho] at k ⊢
  split
  ·rename_i v hz; simp only [hz] at k; exact newB_ok hg k
  ·rename_i hz; simp only [hz] at k; cases k
 | load t x =>
  simp only [ho] at k ⊢
  split
  ·rename_i hz; simp only [hz] at k
   split
   ·rename_i v hw; simp only [hw] at k; exact k
   ·rename_i hw; simp only [hw] at k; cases k
  ·rename_i hz; simp only [hz] at k; exact hg k
 | store t x v =>
  simp only [ho] at k ⊢
  split
  ·rename_i hz; simp only [hz] at k
   split at k
   ·rename_i hc
    simp only [Bool.and_eq_true,Bool.not_eq_true',decide_eq_true_eq,Option.isNone_iff_eq_none] at hc
    exact ⟨hc.1,hc.2.1,hc.2.2.1,Nat.le_of_ble_eq_true hc.2.2.2.1,hc.2.2.2.2,k⟩
   ·cases k
  ·rename_i hz; simp only [hz] at k; exact hg k
 | fieldAddr s x f =>
  simp only [ho] at k ⊢
  split
  ·rename_i hz; simp only [hz] at k
   split
   ·rename_i hw; simp only [hw] at k
    split at k
    ·cases k
    ·rename_i hm
     rw [if_neg (by rintro rfl; simp at hm)]
     exact k
   ·rename_i hw; simp only [hw] at k; cases k
  ·rename_i hz; simp only [hz] at k; exact hg k
 | indexAddr t x i =>
  simp only [ho] at k ⊢
  split
  ·rename_i hz; simp only [hz] at k
   split
   ·rename_i h1 h2; simp only [h1,h2] at k
    split
    ·rename_i h3; simp only [h3] at k
     split at k
     ·rename_i hc
      simp only [Bool.and_eq_true,decide_eq_true_eq] at hc
      exact ⟨hc.1,hc.2,k⟩
     ·cases k
    ·rename_i h3; simp only [h3] at k; cases k
   ·rename_i h1
    split at k
    ·rename_i h2 h3; exact absurd h3 (h1 _ _ _ _ h2)
    ·cases k
  ·rename_i hz; simp only [hz] at k; exact hg k
 | nilCheck x =>
  simp only [ho] at k ⊢
  split
  ·rename_i hz; simp only [hz] at k; exact k
  ·rename_i hz; simp only [hz] at k; exact hg k
 | move x =>
  simp only [ho] at k ⊢
  split
  ·rename_i hz; simp only [hz] at k; exact k
  ·rename_i hz; simp only [hz] at k; exact hg k
 | assign x =>
  simp only [ho] at k ⊢
  split
  ·rename_i hz; simp only [hz] at k; exact k
  ·rename_i hz; simp only [hz] at k; exact hg k
 | _ => simp only [ho] at k ⊢; exact hg k

theorem stepB_ok (hH:HBOk E H) (k:stepB E H ann ops o K a σ = true):stepS E (selfH E) ann ops o (holds K) a σ:=by
 unfold stepB at k
 unfold stepS
 split
 ·rename_i hg; simp only [hg] at k; exact goB_ok hH k
 ·rename_i j want hg
  simp only [hg] at k
  split
  ·rename_i hd; simp only [hd] at k; exact k
  ·rename_i d hd
   simp only [hd] at k
   split
   ·rename_i b hb
    simp only [hb] at k
    cases b
    ·simp only [bcase]
     rw [setB_same hb]
     cases want <;> simp at k ⊢
     ·exact goB_ok hH k
     ·exact k
    ·simp only [bcase]
     rw [setB_same hb]
     cases want <;> simp at k ⊢
     ·exact k
     ·exact goB_ok hH k
   ·rename_i hb; simp only [hb] at k; cases k
   ·rename_i h1 h2
    split at k
    ·rename_i b hb; exact absurd hb (h1 b)
    ·cases k
    ·exact k

theorem opsB_ok (hH:HBOk E H) {id:Nat}:∀ (l:List Oper) (i:Nat) (a:AAct) (σ:State),opsB E H an id ops l i K a σ = true -> opsS E (selfH E) an id ops l i (holds K) a σ
 | [],_,_,_,k => k
 | o :: l,i,a,σ,k => stepS_mono (hok_self E) (fun a σ k => opsB_ok hH l (i + 1) a σ k) (stepB_ok hH k)

theorem goS_still {H':Hand} {K:Next'} (hp:stillOp o.op = true) (k:goS E H' .none o K a σ):goS E H' .none o (fun a' σ' => σ' = σ /\ K a' σ') a σ:=by
 have hg:genS E H' .none o K a σ -> genS E H' .none o (fun a' σ' => σ' = σ /\ K a' σ') a σ:=by
  intro k
  unfold genS at *
  split
  ·rename_i v σ' hr
   rw [hr] at k
   refine ⟨?_,k⟩
   unfold aopF at hr
   split at hr
   ·rename_i v' σ'' hr'
    simp only [reduceCtorEq,if_false] at hr
    cases hr
    exact aop_still hp hr'
   ·exact aop_still hp hr
  ·rename_i f args hr
   refine (aop_nocall (o:=o) ?_ hr).elim
   unfold pureOp
   generalize o.op = op at hp
   cases op <;> simp only [stillOp,Bool.false_eq_true] at hp ⊢
   rename_i c
   cases hc:c.callee <;> rw [hc] at hp <;> simp only [Bool.false_eq_true] at hp ⊢
  ·rename_i hr; rw [hr] at k; exact k
  ·rename_i v1 σ1 v2 σ2 hr
   refine (aop_still_both (P:=E.P) (ρ:=aval E.G a.low) (σ:=σ) hp (v1:=v1) (σ1:=σ1) (v2:=v2) (σ2:=σ2) ?_).elim
   unfold aopF at hr
   split at hr
   ·simp only [reduceCtorEq,if_false] at hr
   ·exact hr
 unfold goS at k ⊢
 cases ho:o.op with
 | alloc e => rw [ho] at hp; simp [stillOp] at hp
 | box e x => rw [ho] at hp; simp [stillOp] at hp
 | store t x v => rw [ho] at hp; simp [stillOp] at hp
 | load t x =>
  simp only [ho] at k ⊢
  split
  ·rename_i hz; simp only [hz] at k
   split
   ·rename_i v hw; simp only [hw] at k; exact ⟨by first | rfl | trivial,k⟩
   ·rename_i hw; simp only [hw] at k
  ·rename_i hz; simp only [hz] at k; exact hg k
 | fieldAddr s x f =>
  simp only [ho] at k ⊢
  split
  ·rename_i hz; simp only [hz] at k
   split
   ·rename_i hw; simp only [hw] at k
    split
    ·rename_i hm; simp only [hm,if_true] at k
    ·rename_i hm; simp only [hm,if_false] at k; exact ⟨by first | rfl | trivial,k⟩
   ·rename_i hw; simp only [hw] at k
  ·rename_i hz; simp only [hz] at k; exact hg k
 | indexAddr t x i =>
  simp only [ho] at k ⊢
  split
  ·rename_i hz; simp only [hz] at k
   split
   ·rename_i h1 h2; simp only [h1,h2] at k
    split
    ·rename_i h3; simp only [h3] at k; exact ⟨k.1,k.2.1,by first | rfl | trivial,k.2.2⟩
    ·rename_i h3; simp only [h3] at k
   ·rename_i h1
    split at k
    ·rename_i h2 h3; exact absurd h3 (h1 _ _ _ _ h2)
    ·exact k
  ·rename_i hz; simp only [hz] at k; exact hg k
 | nilCheck x => simp only [ho] at k ⊢; split <;> (rename_i hz; simp only [hz] at k); exact ⟨by first | rfl | trivial,k⟩; exact hg k
 | move x => simp only [ho] at k ⊢; split <;> (rename_i hz; simp only [hz] at k); exact ⟨by first | rfl | trivial,k⟩; exact hg k
 | assign x => simp only [ho] at k ⊢; split <;> (rename_i hz; simp only [hz] at k); exact ⟨by first | rfl | trivial,k⟩; exact hg k
 | _ => simp only [ho] at k ⊢; exact hg k

theorem stepS_still {H':Hand} {K:Next'} (hp:stillOp o.op = true) (k:stepS E H' .none ops o K a σ):stepS E H' .none ops o (fun a' σ' => σ' = σ /\ K a' σ') a σ:=by
 unfold stepS at *
 split
 ·rename_i hg; simp only [hg] at k; exact goS_still hp k
 ·rename_i j want hg
  simp only [hg] at k
  split
  ·rename_i hd; simp only [hd] at k; exact ⟨by first | rfl | trivial,k⟩
  ·rename_i d hd
   simp only [hd] at k
   split
   ·rename_i b hb
    simp only [hb] at k
    cases b <;> cases want <;> simp only [bcase,Bool.false_eq_true,if_true,if_false] at k ⊢ <;> first | exact goS_still hp k | exact ⟨by first | rfl | trivial,k⟩
   ·rename_i hb; simp only [hb] at k
   ·rename_i h1 h2
    split at k
    ·rename_i b hb; exact absurd hb (h1 b)
    ·exact k.elim
    ·exact ⟨by first | rfl | trivial,k⟩

theorem plainA_ok:∀ {x:Ann},plainA x = true -> x = .none
 | .none,_ => rfl

theorem runB_ok (hH:HBOk E H) {id:Nat}:∀ (l:List (Oper × Nat)) (K:NextB) (a:AAct),runB E H an id ops l K a σ = true -> runN E (selfH E) an id ops l (holds K) a σ
 | [],_,_,k => k
 | (o,i) :: l,K,a,k => by
  simp only [runB,Bool.and_eq_true] at k
  unfold runN
  rw [plainA_ok k.1]
  exact stepS_mono (hok_self E) (fun a σ' k => ⟨k.1,runB_ok hH l K a k.2⟩) (stepS_still k.2.1 (stepB_ok hH k.2.2))

theorem checkB_ok (hH:HBOk E H) {id:Nat}:∀ (l:List (Oper × Nat)),checkB E H an id ops l a σ = true -> checkN E (selfH E) an id ops l a σ
 | [],k => trivial
 | (o,i) :: l,k => by
  simp only [checkB,Bool.and_eq_true] at k
  unfold checkN
  refine ⟨?_,checkB_ok hH l k.2⟩
  simp only [plainA_ok k.1.1]
  refine stepS_mono (hok_self E) (fun a' σ' k => ⟨k.1,?_⟩) (stepS_still k.1.2.1 (stepB_ok hH k.1.2.2))
  have h2:=k.2
  unfold holds sameAtB at h2
  unfold sameAt
  split
  ·rename_i d hd; simp only [hd] at h2; exact TV.same_ok h2
  ·trivial

theorem allB_ok {α:Type} {p:α -> Bool} {q:α -> Prop} (h:∀ x,p x = true -> q x):∀ l,allB p l = true -> allE q l
 | [],_ => trivial
 | [x],k => h _ k
 | x :: y :: r,k => by
  simp only [allB,Bool.and_eq_true] at k
  exact ⟨h _ k.1,allB_ok h (y :: r) (by simpa only [allB] using k.2)⟩

theorem drawB_ok (hH:HBOk E H) {id:Nat} {anc eff:List Nat}:∀ (f:Nat) (done:List Nat) (K:NextB) (a:AAct) (σ:State),drawB E H an id ops anc eff f done K a σ = true -> drawS E (selfH E) an id ops anc eff f done (holds K) a σ
 | 0,_,_,_,_,k => by cases k
 | f + 1,done,K,a,σ,k => by
  unfold drawB at k
  unfold drawS
  refine runN_mono (hok_self E) (fun a σ k => ?_) _ _ _ (runB_ok hH _ _ _ k)
  unfold holds at k
  rw [Bool.and_eq_true] at k
  refine ⟨checkB_ok hH _ k.1,?_⟩
  have k2:=k.2
  split
  ·rename_i e; rw [e] at k2; exact k2
  ·rename_i e; rw [e] at k2
   dsimp only at k2
   exact allB_ok (fun oi k => stepS_mono (hok_self E) (fun a σ k => drawB_ok hH f _ K a σ k) (stepB_ok hH k)) _ k2

structure LBOk (E:Env) (rd:Option Nat) (n:Nat) (an:FnAnn) (L:LHandB):Prop where
 ok:∀ c Q a σ,codeOk n an c = true -> L c Q a σ = true -> AWp E rd n c (fun e a σ => Q e a σ = true) a σ

theorem wpB_ok (hH:HBOk E H) (hm:E.P.follows .mixedOrders = true) {L:LHandB} (hL:LBOk E rd n an L):∀ (c:Code) (Q:PostB) (a:AAct) (σ:State),codeOk n an c = true -> wpB E H L an c Q a σ = true -> AWp E rd n c (fun e a σ => Q e a σ = true) a σ
 | .skip,Q,a,σ,_,h => awp_skip h
 | .region id ops false,Q,a,σ,hc,h => by
  simp only [codeOk,Bool.and_eq_true] at hc
  exact awp_region (hok_self E) hc.1 (opsB_ok hH _ _ _ _ h)
 | .region id ops true,Q,a,σ,hc,h => by
  simp only [codeOk,Bool.and_eq_true,Bool.not_true,Bool.false_or] at hc
  exact awp_draw (hok_self E) hm hc.1 hc.2 (drawB_ok hH _ _ _ _ _ h)
 | .seq x y,Q,a,σ,hc,h => by
  simp only [codeOk,Bool.and_eq_true] at hc
  refine awp_seq ((wpB_ok hH hm hL x _ a σ hc.1 h).mono fun e a σ k => ?_)
  cases e <;> first | exact wpB_ok hH hm hL y Q a σ hc.2 k | exact k
 | .cond c x y,Q,a,σ,hc,h => by
  simp only [codeOk,Bool.and_eq_true] at hc
  simp only [wpB] at h
  split at h
  ·rename_i hb
   exact awp_cond hb (fun _ => wpB_ok hH hm hL x Q _ σ hc.1 h) (fun e => by cases e)
  ·rename_i hb
   exact awp_cond hb (fun e => by cases e) (fun _ => wpB_ok hH hm hL y Q _ σ hc.2 h)
  ·cases h
 | .block id c,Q,a,σ,hc,h => by
  refine awp_block ((wpB_ok hH hm hL c _ a σ hc h).mono fun e a σ k => ?_)
  cases e with
  | exit id' =>
   simp only at k ⊢
   split at k
   ·rename_i e; rw [if_pos (by simpa using e)]; exact k
   ·rename_i e; rw [if_neg (by rintro rfl; rw [Nat.beq_refl] at e; cases e)]; exact k
  | _ => exact k
 | .loop c,Q,a,σ,hc,h => hL.ok _ _ _ _ hc h
 | .rangeFunc f ps x y,Q,a,σ,hc,h => hL.ok _ _ _ _ hc h
 | .exit id,Q,a,σ,hc,h => awp_exit h
 | .ret,Q,a,σ,hc,h => awp_ret h
 | .scope c,Q,a,σ,hc,h => by cases h
 | .label l,Q,a,σ,hc,h => by cases h
 | .goto l,Q,a,σ,hc,h => by cases h
 | .refuse y,Q,a,σ,hc,h => by cases h

def retXB (P:Program) (rs:List ResultVar) (Q:AV -> State -> Bool) (a:AAct) (σ:State):Bool :=
 match ares P a σ rs with
 | some v => Q v σ
 | none => false

def retB (P:Program) (rs:List ResultVar) (Q:AV -> State -> Bool) (e:Exit) (a:AAct) (σ:State):Bool :=
 match e with
 | .normal => retXB P rs Q a σ
 | .ret => retXB P rs Q a σ
 | _ => false

def roundOkB (σ:State):Option Nat -> Bool
 | none => true
 | some id => (loopAt σ id).isSome

theorem roundOkB_ok {σ:State}:∀ {rd:Option Nat},roundOkB σ rd = true -> roundOk σ rd
 | none,_ => trivial
 | some id,h => by
  simp only [roundOkB,Option.isSome_iff_exists] at h
  exact h

def notBusy:LoopState -> Bool
 | .busy => false
 | _ => true
def isReady:LoopState -> Bool
 | .ready => true
 | _ => false

def rangeB (id:Nat) (Q:PostB) (a:AAct) (_:AV) (σ:State):Bool :=
 match loopAt σ id with
 | none => false
 | some l => notBusy l.st && (match l.pend with
  | none => Q .normal a (σ.set id .dead)
  | some .ret => Q .ret a (σ.set id .dead)
  | some (.exit k) => Q (.exit k) a (σ.set id .dead)
  | _ => false)

theorem rangeB_ok {id:Nat} {Q:PostB} {a:AAct} {v:AV} {σ:State} (h:rangeB id Q a v σ = true):rangeQ id (fun e a σ => Q e a σ = true) a v σ:=by
 unfold rangeB at h
 unfold rangeQ
 split at h
 ·cases h
 ·rename_i l hl
  rw [Bool.and_eq_true] at h
  rw [hl]
  refine ⟨fun e => (by rw [e] at h; have:=h.1; cases this),?_⟩
  have h2:=h.2
  split at h2 <;> rename_i hp <;> first | (simp only [hp]; exact h2) | cases h2

def roundB (id:Nat) (Q:AV -> State -> Bool) (e:Exit) (_:AAct) (σ:State):Bool :=
 match loopAt σ id with
 | none => false
 | some l => match e with
  | .normal => Q (.bool true) (σ.set id (.loop { l with st:=.ready,pend:=none }))
  | .ret => Q (.bool false) (σ.set id (.loop { l with st:=.done,pend:=some .ret }))
  | .exit k => Q (.bool false) (σ.set id (.loop { l with st:=.done,pend:=some (.exit k) }))
  | _ => false

theorem roundB_ok {id:Nat} {Q:AV -> State -> Bool} {e:Exit} {a:AAct} {σ:State} (h:roundB id Q e a σ = true):roundQ id (fun v σ => Q v σ = true) e a σ:=by
 unfold roundB at h
 unfold roundQ
 split at h
 ·cases h
 ·rename_i l hl
  rw [hl]
  cases e <;> first | exact h | cases h

def loopB (E:Env) (H:HandB) (own:Nat) (rd:Option Nat) (n:Nat) (an:FnAnn):Nat -> LHandB
 | 0 => fun _ _ _ _ => false
 | k + 1 => fun c Q a σ => match c with
  | .loop b => wpB E H (loopB E H own rd n an k) an b (fun e a σ => match e with | .normal => loopB E H own rd n an k (.loop b) Q a σ | e => Q e a σ) a σ
  | .rangeFunc f ps x y => match (tval E.G a f).low with
   | .func (.func fi) first cap => hasBody E.P fi && (roundOkB σ rd && H (.fn fi) (first ++ [.yield σ.next] ++ cap) (σ.new (.loop ⟨n,a.low,ps.toList,x,y,.ready,none,own⟩)) (rangeB σ.next Q a))
   | _ => false
  | _ => false

theorem loopB_ok (hH:HBOk E H) (hm:E.P.follows .mixedOrders = true) (own:Nat):∀ (k:Nat) (c:Code) (Q:PostB) (a:AAct) (σ:State),codeOk n an c = true -> loopB E H own rd n an k c Q a σ = true -> AWp E rd n c (fun e a σ => Q e a σ = true) a σ
 | 0,_,_,_,_,_,h => by cases h
 | k + 1,c,Q,a,σ,hc,h => by
  unfold loopB at h
  split at h
  ·rename_i b
   refine awp_loop (fun m a σ => m <= k + 1 /\ loopB E H own rd n an m (.loop b) Q a σ = true) (m:=k + 1) ⟨Nat.le_refl _,h⟩ fun m a σ hI => ?_
   cases m with
   | zero => exact absurd hI.2 (by simp [loopB])
   | succ m =>
    refine (wpB_ok hH hm ⟨fun c Q a σ => loopB_ok hH hm own m c Q a σ⟩ b _ a σ hc hI.2).mono fun e a σ h => ?_
    cases e <;> first | exact ⟨m,Nat.lt_succ_self m,Nat.le_of_succ_le hI.1,h⟩ | exact h
  ·split at h
   ·rename_i hf
    simp only [Bool.and_eq_true] at h
    exact awp_rangeFunc hf h.1 (roundOkB_ok h.2.1) (ACalls.mono (hH _ _ _ _ h.2.2) fun v σ' k => rangeB_ok k)
   ·cases h
  ·cases h
 termination_by k => k

def beginB (E:Env) (H:HandB) (own:Nat) (an:FnAnn) (lf:Nat) (id:Nat) (n:Nat) (body:Code) (Q:AV -> State -> Bool) (e:Exit) (a:AAct) (σ:State):Bool :=
 match e with
 | .normal => match loopAt σ id with
  | none => false
  | some l => isReady l.st && wpB E H (loopB E H own (some id) n an lf) an body (roundB id Q) a (σ.set id (.loop { l with st:=.busy }))
 | _ => false

def callB (E:Env) (A:Nat -> FnAnn) (T:Nat -> Option HandB) (lf:Nat):Nat -> HandB
 | 0 => fun _ _ _ _ => false
 | k + 1 => fun t args σ Q => match t with
  | .yield id => match loopAt σ id with
   | some l => Nat.beq args.length l.ps.length && (l.ps.all (fun p => decide (p < l.n)) && (codeOk l.n (A l.own) l.assign && (codeOk l.n (A l.own) l.body &&
      wpB E (callB E A T lf k) (loopB E (callB E A T lf k) l.own (some id) l.n (A l.own) lf) (A l.own) l.assign (beginB E (callB E A T lf k) l.own (A l.own) lf id l.n l.body Q) (roundA l args) σ)))
   | none => false
  | .fn f => match T f with
   | some h => h (.fn f) args σ Q
   | none => match E.P.funcs[f]? with
    | some fn => match fn.body with
     | some c => codeOk fn.ntmps (A f) c && (Nat.ble args.length fn.ntmps &&
       wpB E (callB E A T lf k) (loopB E (callB E A T lf k) f none fn.ntmps (A f) lf) (A f) c (retB E.P fn.results.toList Q) (initA args) σ)
     | none => false
    | none => false

theorem retXB_get {P:Program} {rs:List ResultVar} {Q:AV -> State -> Bool} {a:AAct} {σ:State} (h:retXB P rs Q a σ = true):∃ v,ares P a σ rs = some v /\ Q v σ = true:=by
 unfold retXB at h
 split at h
 ·rename_i v hv; exact ⟨v,hv,h⟩
 ·cases h

theorem callB_ok (hm:E.P.follows .mixedOrders = true) {A:Nat -> FnAnn} {T:Nat -> Option HandB} {lf:Nat} (hT:∀ f h,T f = some h -> HBOk E h):∀ k,HBOk E (callB E A T lf k)
 | 0 => fun _ _ _ _ h => by cases h
 | k + 1 => fun t args σ Q h => by
  have ih:=callB_ok (A:=A) (lf:=lf) hm hT k
  unfold callB at h
  cases t with
  | yield id =>
   dsimp only at h
   split at h
   ·rename_i l hl
    simp only [Bool.and_eq_true] at h
    obtain ⟨h1,h2,h3,h4,h5⟩:=h
    refine ayield_of (loopAt_some hl) (Nat.eq_of_beq_eq_true h1) h2 ((wpB_ok ih hm ⟨loopB_ok ih hm l.own lf⟩ _ _ _ _ h3 h5).mono fun e a1 σ1 k => ?_)
    cases e <;> first | (cases k; done) | skip
    simp only [beginB] at k
    simp only [beginQ]
    split at k
    ·cases k
    ·rename_i l1 hl1
     rw [hl1]
     rw [Bool.and_eq_true] at k
     refine ⟨?_,(wpB_ok ih hm ⟨loopB_ok ih hm l.own lf⟩ _ _ _ _ h4 k.2).mono fun e a σ k => roundB_ok k⟩
     have:=k.1
     revert this
     cases l1.st <;> simp [isReady]
   ·cases h
  | fn f =>
   dsimp only at h
   split at h
   ·rename_i h' hh; exact hT f h' hh _ _ _ _ h
   ·split at h
    ·rename_i fn hf
     split at h
     ·rename_i c hb
      simp only [Bool.and_eq_true] at h
      refine acalls_body hf hb (Nat.le_of_ble_eq_true h.2.1) ((wpB_ok ih hm ⟨loopB_ok ih hm f lf⟩ c _ _ σ h.1 h.2.2).mono fun e a σ k => ?_)
      cases e <;> first | (cases k; done) | (obtain ⟨v,hv,k⟩:=retXB_get k; exact ⟨v,v,σ,hv,.refl v,.refl σ,k⟩)
     ·cases h
    ·cases h
end
end Go.V
