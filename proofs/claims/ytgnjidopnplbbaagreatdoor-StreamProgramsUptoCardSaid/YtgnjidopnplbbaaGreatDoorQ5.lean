/- A part of the proof of the statement S8 (texts brought together and shortened by a program of this work). -/
import Derived.Test.YtgnjidopnplbbaaGreatDoorQ3
import Derived.Test.YtgnjidopnplbbaaGreatDoorQ4
set_option linter.unusedSimpArgs false
set_option linter.unusedVariables false
namespace Go.V
open Go.RowKit

def zGR (E:Env) (H:zG5):Prop:=∀ f args σ Q,H f args σ Q=true->zE0 E f args σ fun v σ'=>Q v σ'=true

def holds (K:zG4):zE3:=fun a σ=>K a σ=true

section
variable {E:Env} {H:zG5} {rd:Option Nat} {n:Nat} {σ:zA6} {a:zDN} {an:zDM} {ann:Ann} {o:Oper} {K:zG4} {ops:Array Oper}
theorem genB_ok (hH:zGR E H) (h:zG6 E H ann o K a σ=true):zE4 E (zE0 E) ann o (holds K) a σ:=by
 unfold zG6 at h
 unfold zE4
 split
 ·rename_i hr; rw [hr] at h; exact h
 ·rename_i hr; rw [hr] at h; exact hH _ _ _ _ h
 ·rename_i hr; rw [hr] at h; cases h
 ·rename_i hr; rw [hr] at h; cases h

theorem zGS {cs:List AV} {gen:Bool} {gen':Prop} (hg:gen=true->gen') (h:newB ann o cs K gen a σ=true):zE5 ann o cs (holds K) gen' a σ:=by
 unfold newB at h
 unfold zE5
 split
 ·rename_i d hd
  simp only [hd,Bool.and_eq_true] at h
  exact h
 ·rename_i hne
  split at h
  ·rename_i d hd; exact absurd hd (hne d rfl)
  ·exact hg h

theorem zGT (hH:zGR E H) (k:goB E H ann o K a σ=true):goS E (zE0 E) ann o (holds K) a σ:=by
 have hg:zG6 E H ann o K a σ=true->zE4 E (zE0 E) ann o (holds K) a σ:=genB_ok hH
 unfold goB at k
 unfold goS
 cases ho:o.op with
 | alloc e =>
  simp only [ho] at k ⊢
  split
  ·rename_i z hz; simp only [hz] at k; exact zGS hg k
  ·rename_i hz; simp only [hz] at k; cases k
 | box e x =>
  simp only [ho] at k ⊢
  split
  ·rename_i v hz; simp only [hz] at k; exact zGS hg k
  ·rename_i hz; simp only [hz] at k; cases k
 | load t x =>
  simp only [ho] at k ⊢
  split
  ·rename_i hz; simp only [hz] at k
   split
   ·rename_i v hw; simp only [hw] at k; exact k
   ·rename_i hw; simp only [hw] at k; cases k
  ·rename_i hz; simp only [hz] at k; exact hg k
 | store t x v =>
  simp only [ho] at k ⊢
  split
  ·rename_i hz; simp only [hz] at k
   split at k
   ·rename_i hc
    simp only [Bool.and_eq_true,Bool.not_eq_true',decide_eq_true_eq,Option.isNone_iff_eq_none] at hc
    exact ⟨hc.1,hc.2.1,hc.2.2.1,Nat.le_of_ble_eq_true hc.2.2.2.1,hc.2.2.2.2,k⟩
   ·cases k
  ·rename_i hz; simp only [hz] at k; exact hg k
 | fieldAddr s x f =>
  simp only [ho] at k ⊢
  split
  ·rename_i hz; simp only [hz] at k
   split
   ·rename_i hw; simp only [hw] at k
    split at k
    ·cases k
    ·rename_i hm
     rw [if_neg (by rintro rfl; simp at hm)]
     exact k
   ·rename_i hw; simp only [hw] at k; cases k
  ·rename_i hz; simp only [hz] at k; exact hg k
 | indexAddr t x i =>
  simp only [ho] at k ⊢
  split
  ·rename_i hz; simp only [hz] at k
   split
   ·rename_i h1 h2; simp only [h1,h2] at k
    split
    ·rename_i h3; simp only [h3] at k
     split at k
     ·rename_i hc
      simp only [Bool.and_eq_true,decide_eq_true_eq] at hc
      exact ⟨hc.1,hc.2,k⟩
     ·cases k
    ·rename_i h3; simp only [h3] at k; cases k
   ·rename_i h1
    split at k
    ·rename_i h2 h3; exact absurd h3 (h1 _ _ _ _ h2)
    ·cases k
  ·rename_i hz; simp only [hz] at k; exact hg k
 | nilCheck x =>
  simp only [ho] at k ⊢
  split
  ·rename_i hz; simp only [hz] at k; exact k
  ·rename_i hz; simp only [hz] at k; exact hg k
 | move x =>
  simp only [ho] at k ⊢
  split
  ·rename_i hz; simp only [hz] at k; exact k
  ·rename_i hz; simp only [hz] at k; exact hg k
 | assign x =>
  simp only [ho] at k ⊢
  split
  ·rename_i hz; simp only [hz] at k; exact k
  ·rename_i hz; simp only [hz] at k; exact hg k
 | _=>simp only [ho] at k ⊢; exact hg k

theorem zGU (hH:zGR E H) (k:zG7 E H ann ops o K a σ=true):zE6 E (zE0 E) ann ops o (holds K) a σ:=by
 unfold zG7 at k
 unfold zE6
 split
 ·rename_i hg; simp only [hg] at k; exact zGT hH k
 ·rename_i j want hg
  simp only [hg] at k
  split
  ·rename_i hd; simp only [hd] at k; exact k
  ·rename_i d hd
   simp only [hd] at k
   split
   ·rename_i b hb
    simp only [hb] at k
    cases b
    ·simp only [bcase]
     rw [zF2 hb]
     cases want <;> simp at k ⊢
     ·exact zGT hH k
     ·exact k
    ·simp only [bcase]
     rw [zF2 hb]
     cases want <;> simp at k ⊢
     ·exact k
     ·exact zGT hH k
   ·rename_i hb; simp only [hb] at k; cases k
   ·rename_i h1 h2
    split at k
    ·rename_i b hb; exact absurd hb (h1 b)
    ·cases k
    ·exact k

theorem zGV (hH:zGR E H) {id:Nat}:∀ (l:List Oper) (i:Nat) (a:zDN) (σ:zA6),opsB E H an id ops l i K a σ=true->opsS E (zE0 E) an id ops l i (holds K) a σ
 | [],_,_,_,k=>k
 | o :: l,i,a,σ,k=>zFZ (zE1 E) (fun a σ k=>zGV hH l (i+1) a σ k) (zGU hH k)

theorem zGW {H':zDY} {K:zE3} (hp:zG1 o.op=true) (k:goS E H' .none o K a σ):goS E H' .none o (fun a' σ'=>σ'=σ/\K a' σ') a σ:=by
 have hg:zE4 E H' .none o K a σ->zE4 E H' .none o (fun a' σ'=>σ'=σ/\K a' σ') a σ:=by
  intro k
  unfold zE4 at *
  split
  ·rename_i v σ' hr
   rw [hr] at k
   refine ⟨?_,k⟩
   unfold zDL at hr
   split at hr
   ·rename_i v' σ'' hr'
    simp only [reduceCtorEq,if_false] at hr
    cases hr
    exact zG2 hp hr'
   ·exact zG2 hp hr
  ·rename_i f args hr
   refine (zEU (o:=o) ?_ hr).elim
   unfold zET
   generalize o.op=op at hp
   cases op <;> simp only [zG1,Bool.false_eq_true] at hp ⊢
   rename_i c
   cases hc:c.callee <;> rw [hc] at hp <;> simp only [Bool.false_eq_true] at hp ⊢
  ·rename_i hr; rw [hr] at k; exact k
  ·rename_i v1 σ1 v2 σ2 hr
   refine (zG3 (P:=E.P) (ρ:=zAA E.G a.low) (σ:=σ) hp (v1:=v1) (σ1:=σ1) (v2:=v2) (σ2:=σ2) ?_).elim
   unfold zDL at hr
   split at hr
   ·simp only [reduceCtorEq,if_false] at hr
   ·exact hr
 unfold goS at k ⊢
 cases ho:o.op with
 | alloc e=>rw [ho] at hp; simp [zG1] at hp
 | box e x=>rw [ho] at hp; simp [zG1] at hp
 | store t x v=>rw [ho] at hp; simp [zG1] at hp
 | load t x =>
  simp only [ho] at k ⊢
  split
  ·rename_i hz; simp only [hz] at k
   split
   ·rename_i v hw; simp only [hw] at k; exact ⟨by first | rfl | trivial,k⟩
   ·rename_i hw; simp only [hw] at k
  ·rename_i hz; simp only [hz] at k; exact hg k
 | fieldAddr s x f =>
  simp only [ho] at k ⊢
  split
  ·rename_i hz; simp only [hz] at k
   split
   ·rename_i hw; simp only [hw] at k
    split
    ·rename_i hm; simp only [hm,if_true] at k
    ·rename_i hm; simp only [hm,if_false] at k; exact ⟨by first | rfl | trivial,k⟩
   ·rename_i hw; simp only [hw] at k
  ·rename_i hz; simp only [hz] at k; exact hg k
 | indexAddr t x i =>
  simp only [ho] at k ⊢
  split
  ·rename_i hz; simp only [hz] at k
   split
   ·rename_i h1 h2; simp only [h1,h2] at k
    split
    ·rename_i h3; simp only [h3] at k; exact ⟨k.1,k.2.1,by first | rfl | trivial,k.2.2⟩
    ·rename_i h3; simp only [h3] at k
   ·rename_i h1
    split at k
    ·rename_i h2 h3; exact absurd h3 (h1 _ _ _ _ h2)
    ·exact k
  ·rename_i hz; simp only [hz] at k; exact hg k
 | nilCheck x=>simp only [ho] at k ⊢; split <;> (rename_i hz; simp only [hz] at k); exact ⟨by first | rfl | trivial,k⟩; exact hg k
 | move x=>simp only [ho] at k ⊢; split <;> (rename_i hz; simp only [hz] at k); exact ⟨by first | rfl | trivial,k⟩; exact hg k
 | assign x=>simp only [ho] at k ⊢; split <;> (rename_i hz; simp only [hz] at k); exact ⟨by first | rfl | trivial,k⟩; exact hg k
 | _=>simp only [ho] at k ⊢; exact hg k

theorem zGX {H':zDY} {K:zE3} (hp:zG1 o.op=true) (k:zE6 E H' .none ops o K a σ):zE6 E H' .none ops o (fun a' σ'=>σ'=σ/\K a' σ') a σ:=by
 unfold zE6 at *
 split
 ·rename_i hg; simp only [hg] at k; exact zGW hp k
 ·rename_i j want hg
  simp only [hg] at k
  split
  ·rename_i hd; simp only [hd] at k; exact ⟨by first | rfl | trivial,k⟩
  ·rename_i d hd
   simp only [hd] at k
   split
   ·rename_i b hb
    simp only [hb] at k
    cases b <;> cases want <;> simp only [bcase,Bool.false_eq_true,if_true,if_false] at k ⊢ <;> first | exact zGW hp k | exact ⟨by first | rfl | trivial,k⟩
   ·rename_i hb; simp only [hb] at k
   ·rename_i h1 h2
    split at k
    ·rename_i b hb; exact absurd hb (h1 b)
    ·exact k.elim
    ·exact ⟨by first | rfl | trivial,k⟩

theorem zGY:∀ {x:Ann},zG8 x=true->x = .none
 | .none,_=>rfl

theorem zGZ (hH:zGR E H) {id:Nat}:∀ (l:List (Oper×Nat)) (K:zG4) (a:zDN),runB E H an id ops l K a σ=true->zFE E (zE0 E) an id ops l (holds K) a σ
 | [],_,_,k=>k
 | (o,i) :: l,K,a,k=>by
  simp only [runB,Bool.and_eq_true] at k
  unfold zFE
  rw [zGY k.1]
  exact zFZ (zE1 E) (fun a σ' k=>⟨k.1,zGZ hH l K a k.2⟩) (zGX k.2.1 (zGU hH k.2.2))

theorem zH0 (hH:zGR E H) {id:Nat}:∀ (l:List (Oper×Nat)),zGA E H an id ops l a σ=true->zFG E (zE0 E) an id ops l a σ
 | [],k=>trivial
 | (o,i) :: l,k=>by
  simp only [zGA,Bool.and_eq_true] at k
  unfold zFG
  refine ⟨?_,zH0 hH l k.2⟩
  simp only [zGY k.1.1]
  refine zFZ (zE1 E) (fun a' σ' k=>⟨k.1,?_⟩) (zGX k.1.2.1 (zGU hH k.1.2.2))
  have h2:=k.2
  unfold holds zG9 at h2
  unfold zFF
  split
  ·rename_i d hd; simp only [hd] at h2; exact TV.same_ok h2
  ·trivial

theorem zH1 {α:Type} {p:α->Bool} {q:α->Prop} (h:∀ x,p x=true->q x):∀ l,allB p l=true->allE q l
 | [],_=>trivial
 | [x],k=>h _ k
 | x :: y :: r,k=>by
  simp only [allB,Bool.and_eq_true] at k
  exact ⟨h _ k.1,zH1 h (y :: r) (by simpa only [allB] using k.2)⟩

theorem zH2 (hH:zGR E H) {id:Nat} {anc eff:List Nat}:∀ (f:Nat) (done:List Nat) (K:zG4) (a:zDN) (σ:zA6),drawB E H an id ops anc eff f done K a σ=true->zFI E (zE0 E) an id ops anc eff f done (holds K) a σ
 | 0,_,_,_,_,k=>by cases k
 | f+1,done,K,a,σ,k=>by
  unfold drawB at k
  unfold zFI
  refine zG0 (zE1 E) (fun a σ k => ?_) _ _ _ (zGZ hH _ _ _ k)
  unfold holds at k
  rw [Bool.and_eq_true] at k
  refine ⟨zH0 hH _ k.1,?_⟩
  have k2:=k.2
  split
  ·rename_i e; rw [e] at k2; exact k2
  ·rename_i e; rw [e] at k2
   dsimp only at k2
   exact zH1 (fun oi k=>zFZ (zE1 E) (fun a σ k=>zH2 hH f _ K a σ k) (zGU hH k)) _ k2

structure LBOk (E:Env) (rd:Option Nat) (n:Nat) (an:zDM) (L:zGC):Prop where
 ok:∀ c Q a σ,zFX n an c=true->L c Q a σ=true->AWp E rd n c (fun e a σ=>Q e a σ=true) a σ

theorem zH3 (hH:zGR E H) (hm:E.P.follows .mixedOrders=true) {L:zGC} (hL:LBOk E rd n an L):∀ (c:Code) (Q:zGB) (a:zDN) (σ:zA6),zFX n an c=true->wpB E H L an c Q a σ=true->AWp E rd n c (fun e a σ=>Q e a σ=true) a σ
 | .skip,Q,a,σ,_,h=>zED h
 | .region id ops false,Q,a,σ,hc,h=>by
  simp only [zFX,Bool.and_eq_true] at hc
  exact zEC (zE1 E) hc.1 (zGV hH _ _ _ _ h)
 | .region id ops true,Q,a,σ,hc,h=>by
  simp only [zFX,Bool.and_eq_true,Bool.not_true,Bool.false_or] at hc
  exact zFU (zE1 E) hm hc.1 hc.2 (zH2 hH _ _ _ _ _ h)
 | .seq x y,Q,a,σ,hc,h=>by
  simp only [zFX,Bool.and_eq_true] at hc
  refine zEG ((zH3 hH hm hL x _ a σ hc.1 h).mono fun e a σ k => ?_)
  cases e <;> first | exact zH3 hH hm hL y Q a σ hc.2 k | exact k
 | .cond c x y,Q,a,σ,hc,h=>by
  simp only [zFX,Bool.and_eq_true] at hc
  simp only [wpB] at h
  split at h
  ·rename_i hb
   exact zEH hb (fun _=>zH3 hH hm hL x Q _ σ hc.1 h) (fun e=>by cases e)
  ·rename_i hb
   exact zEH hb (fun e=>by cases e) (fun _=>zH3 hH hm hL y Q _ σ hc.2 h)
  ·cases h
 | .block id c,Q,a,σ,hc,h=>by
  refine zEI ((zH3 hH hm hL c _ a σ hc h).mono fun e a σ k => ?_)
  cases e with
  | exit id' =>
   simp only at k ⊢
   split at k
   ·rename_i e; rw [if_pos (by simpa using e)]; exact k
   ·rename_i e; rw [if_neg (by rintro rfl; rw [Nat.beq_refl] at e; cases e)]; exact k
  | _=>exact k
 | .loop c,Q,a,σ,hc,h=>hL.ok _ _ _ _ hc h
 | .rangeFunc f ps x y,Q,a,σ,hc,h=>hL.ok _ _ _ _ hc h
 | .exit id,Q,a,σ,hc,h=>zEE h
 | .ret,Q,a,σ,hc,h=>zEF h
 | .scope c,Q,a,σ,hc,h=>by cases h
 | .label l,Q,a,σ,hc,h=>by cases h
 | .goto l,Q,a,σ,hc,h=>by cases h
 | .refuse y,Q,a,σ,hc,h=>by cases h

def retXB (P:Program) (rs:List ResultVar) (Q:AV->zA6->Bool) (a:zDN) (σ:zA6):Bool :=
 match ares P a σ rs with
 | some v=>Q v σ
 | none=>false

def retB (P:Program) (rs:List ResultVar) (Q:AV->zA6->Bool) (e:Exit) (a:zDN) (σ:zA6):Bool :=
 match e with
 | .normal=>retXB P rs Q a σ
 | .ret=>retXB P rs Q a σ
 | _=>false

def zH4 (σ:zA6):Option Nat->Bool
 | none=>true
 | some id=>(zGD σ id).isSome

theorem zH5 {σ:zA6}:∀ {rd:Option Nat},zH4 σ rd=true->zGO σ rd
 | none,_=>trivial
 | some id,h=>by
  simp only [zH4,Option.isSome_iff_exists] at h
  exact h

def notBusy:LoopState->Bool
 | .busy=>false
 | _=>true
def zH6:LoopState->Bool
 | .ready=>true
 | _=>false

def zH7 (id:Nat) (Q:zGB) (a:zDN) (_:AV) (σ:zA6):Bool :=
 match zGD σ id with
 | none=>false
 | some l=>notBusy l.st&&(match l.pend with
  | none=>Q .normal a (σ.set id .dead)
  | some .ret=>Q .ret a (σ.set id .dead)
  | some (.exit k)=>Q (.exit k) a (σ.set id .dead)
  | _=>false)

theorem zH8 {id:Nat} {Q:zGB} {a:zDN} {v:AV} {σ:zA6} (h:zH7 id Q a v σ=true):zGN id (fun e a σ=>Q e a σ=true) a v σ:=by
 unfold zH7 at h
 unfold zGN
 split at h
 ·cases h
 ·rename_i l hl
  rw [Bool.and_eq_true] at h
  rw [hl]
  refine ⟨fun e=>(by rw [e] at h; have:=h.1; cases this),?_⟩
  have h2:=h.2
  split at h2 <;> rename_i hp <;> first | (simp only [hp]; exact h2) | cases h2

def zH9 (id:Nat) (Q:AV->zA6->Bool) (e:Exit) (_:zDN) (σ:zA6):Bool :=
 match zGD σ id with
 | none=>false
 | some l=>match e with
  | .normal=>Q (.bool true) (σ.set id (.loop { l with st:=.ready,pend:=none }))
  | .ret=>Q (.bool false) (σ.set id (.loop { l with st:=.done,pend:=some .ret }))
  | .exit k=>Q (.bool false) (σ.set id (.loop { l with st:=.done,pend:=some (.exit k) }))
  | _=>false

theorem zHA {id:Nat} {Q:AV->zA6->Bool} {e:Exit} {a:zDN} {σ:zA6} (h:zH9 id Q e a σ=true):zGF id (fun v σ=>Q v σ=true) e a σ:=by
 unfold zH9 at h
 unfold zGF
 split at h
 ·cases h
 ·rename_i l hl
  rw [hl]
  cases e <;> first | exact h | cases h

def zHB (E:Env) (H:zG5) (own:Nat) (rd:Option Nat) (n:Nat) (an:zDM):Nat->zGC
 | 0=>fun _ _ _ _=>false
 | k+1=>fun c Q a σ=>match c with
  | .loop b=>wpB E H (zHB E H own rd n an k) an b (fun e a σ=>match e with | .normal=>zHB E H own rd n an k (.loop b) Q a σ | e=>Q e a σ) a σ
  | .rangeFunc f ps x y=>match (zDO E.G a f).low with
   | .func (.func fi) first cap=>zBG E.P fi&&(zH4 σ rd&&H (.fn fi) (first++[.yield σ.next]++cap) (σ.new (.loop ⟨n,a.low,ps.toList,x,y,.ready,none,own⟩)) (zH7 σ.next Q a))
   | _=>false
  | _=>false

theorem zHC (hH:zGR E H) (hm:E.P.follows .mixedOrders=true) (own:Nat):∀ (k:Nat) (c:Code) (Q:zGB) (a:zDN) (σ:zA6),zFX n an c=true->zHB E H own rd n an k c Q a σ=true->AWp E rd n c (fun e a σ=>Q e a σ=true) a σ
 | 0,_,_,_,_,_,h=>by cases h
 | k+1,c,Q,a,σ,hc,h=>by
  unfold zHB at h
  split at h
  ·rename_i b
   refine zEK (fun m a σ=>m<=k+1/\zHB E H own rd n an m (.loop b) Q a σ=true) (m:=k+1) ⟨Nat.le_refl _,h⟩ fun m a σ hI => ?_
   cases m with
   | zero=>exact absurd hI.2 (by simp [zHB])
   | succ m =>
    refine (zH3 hH hm ⟨fun c Q a σ=>zHC hH hm own m c Q a σ⟩ b _ a σ hc hI.2).mono fun e a σ h => ?_
    cases e <;> first | exact ⟨m,Nat.lt_succ_self m,Nat.le_of_succ_le hI.1,h⟩ | exact h
  ·split at h
   ·rename_i hf
    simp only [Bool.and_eq_true] at h
    exact zGQ hf h.1 (zH5 h.2.1) (zDV.mono (hH _ _ _ _ h.2.2) fun v σ' k=>zH8 k)
   ·cases h
  ·cases h
 termination_by k=>k

def beginB (E:Env) (H:zG5) (own:Nat) (an:zDM) (lf:Nat) (id:Nat) (n:Nat) (body:Code) (Q:AV->zA6->Bool) (e:Exit) (a:zDN) (σ:zA6):Bool :=
 match e with
 | .normal=>match zGD σ id with
  | none=>false
  | some l=>zH6 l.st&&wpB E H (zHB E H own (some id) n an lf) an body (zH9 id Q) a (σ.set id (.loop { l with st:=.busy }))
 | _=>false

def zHD (E:Env) (A:Nat->zDM) (T:Nat->Option zG5) (lf:Nat):Nat->zG5
 | 0=>fun _ _ _ _=>false
 | k+1=>fun t args σ Q=>match t with
  | .yield id=>match zGD σ id with
   | some l=>Nat.beq args.length l.ps.length&&(l.ps.all (fun p=>decide (p<l.n))&&(zFX l.n (A l.own) l.assign&&(zFX l.n (A l.own) l.body &&
      wpB E (zHD E A T lf k) (zHB E (zHD E A T lf k) l.own (some id) l.n (A l.own) lf) (A l.own) l.assign (beginB E (zHD E A T lf k) l.own (A l.own) lf id l.n l.body Q) (zGH l args) σ)))
   | none=>false
  | .fn f=>match T f with
   | some h=>h (.fn f) args σ Q
   | none=>match E.P.funcs[f]? with
    | some fn=>match fn.body with
     | some c=>zFX fn.ntmps (A f) c&&(Nat.ble args.length fn.ntmps &&
       wpB E (zHD E A T lf k) (zHB E (zHD E A T lf k) f none fn.ntmps (A f) lf) (A f) c (retB E.P fn.results.toList Q) (zEN args) σ)
     | none=>false
    | none=>false

theorem zHE {P:Program} {rs:List ResultVar} {Q:AV->zA6->Bool} {a:zDN} {σ:zA6} (h:retXB P rs Q a σ=true):∃ v,ares P a σ rs=some v/\Q v σ=true:=by
 unfold retXB at h
 split at h
 ·rename_i v hv; exact ⟨v,hv,h⟩
 ·cases h

theorem zHF (hm:E.P.follows .mixedOrders=true) {A:Nat->zDM} {T:Nat->Option zG5} {lf:Nat} (hT:∀ f h,T f=some h->zGR E h):∀ k,zGR E (zHD E A T lf k)
 | 0=>fun _ _ _ _ h=>by cases h
 | k+1=>fun t args σ Q h=>by
  have ih:=zHF (A:=A) (lf:=lf) hm hT k
  unfold zHD at h
  cases t with
  | yield id =>
   dsimp only at h
   split at h
   ·rename_i l hl
    simp only [Bool.and_eq_true] at h
    obtain ⟨h1,h2,h3,h4,h5⟩:=h
    refine zGM (zGE hl) (Nat.eq_of_beq_eq_true h1) h2 ((zH3 ih hm ⟨zHC ih hm l.own lf⟩ _ _ _ _ h3 h5).mono fun e a1 σ1 k => ?_)
    cases e <;> first | (cases k; done) | skip
    simp only [beginB] at k
    simp only [zGG]
    split at k
    ·cases k
    ·rename_i l1 hl1
     rw [hl1]
     rw [Bool.and_eq_true] at k
     refine ⟨?_,(zH3 ih hm ⟨zHC ih hm l.own lf⟩ _ _ _ _ h4 k.2).mono fun e a σ k=>zHA k⟩
     have:=k.1
     revert this
     cases l1.st <;> simp [zH6]
   ·cases h
  | fn f =>
   dsimp only at h
   split at h
   ·rename_i h' hh; exact hT f h' hh _ _ _ _ h
   ·split at h
    ·rename_i fn hf
     split at h
     ·rename_i c hb
      simp only [Bool.and_eq_true] at h
      refine zEP hf hb (Nat.le_of_ble_eq_true h.2.1) ((zH3 ih hm ⟨zHC ih hm f lf⟩ c _ _ σ h.1 h.2.2).mono fun e a σ k => ?_)
      cases e <;> first | (cases k; done) | (obtain ⟨v,hv,k⟩:=zHE k; exact ⟨v,v,σ,hv,.refl v,.refl σ,k⟩)
     ·cases h
    ·cases h
end
end Go.V
