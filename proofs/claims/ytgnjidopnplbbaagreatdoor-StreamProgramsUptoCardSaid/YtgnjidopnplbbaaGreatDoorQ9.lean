/- A part of the proof of the statement S8 (texts brought together and shortened by a program of this work). -/
import Derived.Test.YtgnjidopnplbbaaGreatDoorQ6
import Derived.Test.YtgnjidopnplbbaaGreatDoorQ8
import Derived.Test.YtgnjidopnplbbaaGreatDoorProg
import Derived.KernelRfl
set_option maxRecDepth 1000000
set_option linter.unusedSimpArgs false
set_option linter.unusedVariables false
namespace Go.V
open Go.RowKit Go.Proofs

noncomputable def EV (B:Nat) (w0:World) (G:Nat->AV):Env:=⟨Tryz.prog,B,w0,G⟩

theorem zKM (B:Nat) (w0:World) (G:Nat->AV):(EV B w0 G).P.follows .mixedOrders=true:=by kernel_rfl

theorem zKN {E:Env} {H:zDY} {an:zDM} {id:Nat} {ops:Array Oper} {a:zDN} {σ:zA6}:∀ {l:List (Oper×Nat)},(∀ x∈l,zE6 E H (an.ann id x.2) ops x.1 (fun a' σ'=>σ'=σ/\zFF x.1.dst a' a) a σ)->zFG E H an id ops l a σ
 | [],_=>trivial
 | x :: l,h=>⟨h x (by simp),zKN fun y hy=>h y (by simp [hy])⟩
theorem zKO {α:Type} {p:α->Prop}:∀ {l:List α},(∀ x∈l,p x)->allE p l
 | [],_=>trivial
 | [x],h=>h x (by simp)
 | x :: y :: l,h=>⟨h x (by simp),zKO fun z hz=>h z (by simp [hz])⟩

theorem zA6.new_set (σ:zA6) (o o':zA5):(σ.new o).set σ.next o'=σ.new o':=by
 unfold zA6.new zA6.set
 congr 1
 funext j
 dsimp only
 split <;> rfl
theorem zA6.new_objs (σ:zA6) (o:zA5):(σ.new o).objs σ.next=o:=by simp [zA6.new]

theorem zKP {P:Program} {ann:Ann} {o:Oper} {ρ:Operand->AV} {σ:zA6} {t kt et id:Nat} {m k x:Operand} {key v:AV} {es:List (AV×AV)}
  (ha:ann ≠ .frz) (ho:o.op = .insert t m k x) (hm:ρ m = .map id) (hk:ρ k=key) (hx:ρ x=v) (ht:zAY P t=some (kt,et)) (hok:zAX P kt key=true) (hi:σ.objs id = .map es)
  (hne:∀ e∈es,aeq P kt key e.1=some false):zDL P ann o ρ σ = .ok .undef (σ.set id (.map (es++[(key,v)]))):=by
 have hak:∀ (l:List (AV×AV)) n,(∀ e∈l,aeq P kt key e.1=some false)->zAW P kt key l n=some none:=by
  intro l
  induction l with
  | nil=>intro n _; rfl
  | cons e l ih=>intro n h; simp only [zAW,h e (by simp)]; exact ih (n+1) fun e' he=>h e' (by simp [he])
 unfold zDL
 simp only [ho,aop,hm,hk,hx,zB6,ht,hok,if_true,hi,hak es 0 hne,zB5,ha,if_false]

section
variable (anc eff:List Nat) (zi:List (Oper×Nat))
def zKQ (x:Oper×Nat):Bool:=!eff.contains x.2&&eff.all fun e => !zF7 anc e x.2
def zKR (x:Oper×Nat):Bool:=!eff.contains x.2&&eff.all fun e=>zF7 anc e x.2

variable {anc eff}
theorem zKS {x:Oper×Nat} (h:zKQ anc eff x=true) (d:List Nat):zFA anc eff d x.2=true:=by
 unfold zKQ at h
 unfold zFA
 simp only [Bool.and_eq_true,List.all_eq_true] at h ⊢
 exact ⟨h.1,fun e he=>by rw [h.2 e he]; rfl⟩
theorem zKT {x:Oper×Nat} (h:zKR anc eff x=true) (d:List Nat):zFA anc eff d x.2=eff.all fun e=>d.contains e:=by
 unfold zKR at h
 unfold zFA
 simp only [Bool.and_eq_true,List.all_eq_true] at h
 rw [h.1,Bool.true_and,Bool.eq_iff_iff,List.all_eq_true,List.all_eq_true]
 constructor
 ·intro k e he
  have:=k e he
  rw [h.2 e he] at this
  simpa using this
 ·intro k e he
  rw [h.2 e he,k e he]; rfl
theorem zKU {i:Nat} (h:eff.contains i=true) (d:List Nat):zFA anc eff d i=false:=by
 unfold zFA; rw [h]; rfl
end

def zKV:List AV:=[.agg [.str ⟨⟨[116,114,117,101]⟩⟩,.int .i64 0],.agg [.str ⟨⟨[61]⟩⟩,.int .i64 2],.agg [.str ⟨⟨[58,61]⟩⟩,.int .i64 2],.agg [.str ⟨⟨[64]⟩⟩,.int .i64 2],.agg [.str ⟨⟨[58,45]⟩⟩,.int .i64 2],
 .agg [.str ⟨⟨[58,45]⟩⟩,.int .i64 1],.agg [.str ⟨⟨[44]⟩⟩,.int .i64 2],.agg [.str ⟨⟨[124]⟩⟩,.int .i64 2],.agg [.str ⟨⟨[111,116,104,101,114,119,105,115,101]⟩⟩,.int .i64 0],
 .agg [.str ⟨⟨[97,108,116,101,114,110,97,116,105,118,101,108,121]⟩⟩,.int .i64 0]]
def zKW (i:Nat):AV:=zKV.getD (i / 2 - 1) .undef
def ent (i:Nat):AV×AV:=(zKW i,.bool true)
def zKX:List (AV×AV):=zKV.map fun k=>(k,.bool true)

def zKY (id:Nat):Code->Option (Array Oper)
 | .region i ops _=>if Nat.beq i id then some ops else none
 | .seq a b=>match zKY id a with | some x=>some x | none=>zKY id b
 | .cond _ a b=>match zKY id a with | some x=>some x | none=>zKY id b
 | .block _ c=>zKY id c
 | .loop c=>zKY id c
 | .rangeFunc _ _ a b=>match zKY id a with | some x=>some x | none=>zKY id b
 | _=>none
noncomputable def zKZ:Array Oper:=match Tryz.prog.funcs[225]? with
 | some fn=>match fn.body with
  | some c=>(zKY 1 c).getD #[]
  | none=>#[]
 | none=>#[]
def zL0:List Nat:=[0,2,4,6,8,10,12,14,16,18,20]
noncomputable def zL1:List Nat:=zFW zKZ

def insB (x:Oper×Nat):Bool :=
 match x.1.op,x.1.guard,x.1.dst with
 | .insert t (.tmp m) (.tmp k) (.const (.bool true)),none,none=>Nat.beq t 226&&(Nat.beq m 1&&Nat.beq k (x.2 / 2+1))
 | _,_,_=>false

theorem insB_ok {x:Oper×Nat} (h:insB x=true):x.1.op = .insert 226 (.tmp 1) (.tmp (x.2 / 2+1)) (.const (.bool true))/\x.1.guard=none/\x.1.dst=none:=by
 unfold insB at h
 split at h
 ·rename_i t m k h1 h2 h3
  simp only [Bool.and_eq_true] at h
  rw [h1,h2,h3,Nat.eq_of_beq_eq_true h.1,Nat.eq_of_beq_eq_true h.2.1,Nat.eq_of_beq_eq_true h.2.2]
  exact ⟨rfl,rfl,rfl⟩
 ·cases h

def frB (a:zDN):zDN:=(List.range 10).foldl (fun a j=>a.put (some (j+2)) (.v (zKV.getD j .undef))) a
def zL2 (a:zDN) (i:Nat):zDN:=(frB a).put (some 1) (.v (.map i))
def frE (a:zDN) (i:Nat):zDN:=((zL2 a i).put (some 12) (.v (.map i))).put (some 0) (.v (.map i))

theorem all225:zKZ.toList.zipIdx.all (fun x=>(zL0.contains x.2&&(Nat.beq x.2 0 || insB x)) || zKQ zL1 zL0 x || zKR zL1 zL0 x)=true:=by kernel_rfl
theorem keys225 (B:Nat) (w0:World) (G:Nat->AV):(zL0.all fun i=>Nat.beq i 0 || (zAX Tryz.prog 240 (zKW i)&&zL0.all fun j=>Nat.beq j 0 || Nat.beq i j || (match aeq Tryz.prog 240 (zKW i) (zKW j) with | some false=>true | _=>false)))=true:=by kernel_rfl
theorem zL3:zHI 225=zHH:=by kernel_rfl
theorem zL4:zAY Tryz.prog 226=some (240,4):=by kernel_rfl

theorem zL5:zKZ.toList.zipIdx.all (fun x => !zKQ zL1 zL0 x || zL0.any fun e=>zF7 zL1 x.2 e)=true:=by kernel_rfl

section
variable {B:Nat} {w0:World} {G:Nat->AV}
noncomputable def zL6:List (Oper×Nat):=zKZ.toList.zipIdx
theorem zL7:zL6=zKZ.toList.zipIdx:=rfl

theorem run_last (K:zE3) (a:zDN) (i:Nat) (σ:zA6):zFE (EV B w0 G) (zE0 (EV B w0 G)) (zHI 225) 1 zKZ (zL6.filter (zKR zL1 zL0)) K (zL2 a i) σ=(σ=σ/\σ=σ/\K (frE a i) σ):=by kernel_rfl
theorem zL8 (a:zDN) (i:Nat) (σ:zA6):zFG (EV B w0 G) (zE0 (EV B w0 G)) (zHI 225) 1 zKZ (zL6.filter (zKR zL1 zL0)) (frE a i) σ=((σ=σ/\TV.v (.map i)=TV.v (.map i))/\(σ=σ/\TV.v (.map i)=TV.v (.map i))/\True):=by kernel_rfl
theorem zL9 (K:zE3) (a:zDN) (σ:zA6):zFE (EV B w0 G) (zE0 (EV B w0 G)) (zHI 225) 1 zKZ (zL6.filter (zFB zL1 zL0 [])) K a σ=(σ=σ/\σ=σ/\σ=σ/\σ=σ/\σ=σ/\σ=σ/\σ=σ/\σ=σ/\σ=σ/\σ=σ/\K (frB a) σ):=by kernel_rfl
theorem zLA (a:zDN) (σ:zA6):zGA (EV B w0 G) (fun _ _ _ _=>false) (zHI 225) 1 zKZ (zL6.filter (zKQ zL1 zL0)) (frB a) σ=true:=by kernel_rfl
theorem zLB (a:zDN) (i:Nat) (σ:zA6):zGA (EV B w0 G) (fun _ _ _ _=>false) (zHI 225) 1 zKZ (zL6.filter (zKQ zL1 zL0)) (zL2 a i) σ=true:=by kernel_rfl
theorem zLC (K:Nat->zE3) (a:zDN) (σ:zA6):allE (fun (oi:Oper×Nat)=>zE6 (EV B w0 G) (zE0 (EV B w0 G)) ((zHI 225).ann 1 oi.2) zKZ oi.1 (K oi.2) (frB a) σ) (zL6.filter (zFD zL1 zL0 []))=K 0 (zL2 a σ.next) (σ.new (.map [])):=by kernel_rfl

theorem zLD (E:Env):zGR E (fun _ _ _ _=>false):=fun _ _ _ _ h=>by cases h

theorem zLE {x:Oper×Nat} (hx:x∈zL6):(zL0.contains x.2=true/\(x.2=0\/insB x=true))\/zKQ zL1 zL0 x=true\/zKR zL1 zL0 x=true:=by
 have h:=all225
 rw [List.all_eq_true] at h
 have:=h x hx
 simp only [Bool.or_eq_true,Bool.and_eq_true] at this
 rcases this with (h1 | h1) | h1
 ·exact .inl ⟨h1.1,h1.2.imp (fun e=>Nat.eq_of_beq_eq_true e) id⟩
 ·exact .inr (.inl h1)
 ·exact .inr (.inr h1)

theorem zLF (a:zDN) (i j:Nat) (hj:j∈zL0) (h0:j≠0):(zL2 a i).t (j / 2+1) = .v (zKW j):=by
 have:(zL0.all fun j=>Nat.beq j 0 || decide ((j / 2+1)≠1/\2<=j / 2+1/\j / 2 - 1<10/\j / 2+1=(j / 2 - 1)+2))=true:=by decide
 simp only [zL0,List.mem_cons,List.not_mem_nil,or_false] at hj
 rcases hj with rfl | rfl | rfl | rfl | rfl | rfl | rfl | rfl | rfl | rfl | rfl <;> first | exact absurd rfl h0 | rfl

def entries (done:List Nat):List (AV×AV):=(done.filter (fun j => !Nat.beq j 0)).map ent

theorem zLG:∀ {l m:List Nat},l.Nodup->(∀ x∈l,x∈m)->l.length<=m.length
 | [],_,_,_=>Nat.zero_le _
 | x :: l,m,hn,hs=>by
  obtain ⟨h1,h2⟩:=List.nodup_cons.1 hn
  have hx:=hs x (by simp)
  have:=zLG (m:=m.erase x) h2 fun y hy=>(List.mem_erase_of_ne (by rintro rfl; exact h1 hy)).2 (hs y (by simp [hy]))
  rw [List.length_erase_of_mem hx] at this
  have hp:0<m.length:=List.length_pos_of_mem hx
  simp only [List.length_cons]
  omega

theorem draw225 {K:zE3} {a:zDN} {σ:zA6} (hK:∀ es,es.Perm zKX->K (frE a σ.next) (σ.new (.map es))):∀ (f:Nat) (done:List Nat) (es:List (AV×AV)),done.Nodup->(∀ e∈done,e∈zL0)->0∈done->es.Perm (entries done)->12<=f+done.length ->
  zFI (EV B w0 G) (zE0 (EV B w0 G)) (zHI 225) 1 zKZ zL1 zL0 f done K (zL2 a σ.next) (σ.new (.map es)):=by
 intro f
 induction f with
 | zero =>
  intro done es hn hs _ _ hf
  have:done.length<=zL0.length:=zLG hn hs
  have e:zL0.length=11:=rfl
  omega
 | succ f ih =>
  intro done es hn hs h0 hp hf
  have hdone:∃ e d,done=e :: d:=by
   cases done with
   | nil=>simp at h0
   | cons e d=>exact ⟨e,d,rfl⟩
  obtain ⟨e0,d0,rfl⟩:=hdone
  have hcont:∀ {l:List Nat} {e:Nat},l.contains e=true↔e∈l:=fun {l e}=>by simp
  unfold zFI
  rw [<-zL7]
  cases hfull:zL0.all ((e0 :: d0).contains ·) with
  | true =>
   have hall:∀ e∈zL0,e∈e0 :: d0:=by
    rw [List.all_eq_true] at hfull
    intro e he; exact hcont.1 (hfull e he)
   have hnew:zL6.filter (zFB zL1 zL0 (e0 :: d0))=zL6.filter (zKR zL1 zL0):=by
    apply List.filter_congr
    intro x hx
    show (zFA zL1 zL0 (e0 :: d0) x.2 && !zFA zL1 zL0 d0 x.2)=_
    rcases zLE hx with ⟨h1,_⟩ | h1 | h1
    ·rw [zKU h1]
     unfold zKR; rw [h1]; rfl
    ·rw [zKS h1,zKS h1]
     cases hl:zKR zL1 zL0 x with
     | false=>rfl
     | true =>
      unfold zKQ at h1; unfold zKR at hl
      simp only [Bool.and_eq_true,List.all_eq_true] at h1 hl
      have k1:=h1.2 0 (by decide); have k2:=hl.2 0 (by decide)
      rw [k2] at k1; cases k1
    ·rw [zKT h1,zKT h1,h1]
     have k1:zL0.all (fun e=>(e0 :: d0).contains e)=true:=by rw [List.all_eq_true]; exact fun e he=>hcont.2 (hall e he)
     have k2:zL0.all (fun e=>d0.contains e)=false:=by
      rw [List.all_eq_false]
      refine ⟨e0,hs e0 (by simp),?_⟩
      rw [hcont]
      exact (List.nodup_cons.1 hn).1
     rw [k1,k2]; rfl
   rw [hnew,run_last]
   refine ⟨rfl,rfl,zKN fun x hx => ?_,?_⟩
   ·obtain ⟨hx1,hx2⟩:=List.mem_filter.1 hx
    have hlast:zKR zL1 zL0 x=true:=by
     unfold zFC at hx2
     simp only [Bool.and_eq_true,Bool.not_eq_true'] at hx2
     rcases zLE hx1 with ⟨h1,_⟩ | h1 | h1
     ·rw [zKU h1] at hx2; cases hx2.1
     ·have:=zL5
      rw [List.all_eq_true] at this
      have:=this x hx1
      rw [h1] at this
      simp only [Bool.not_true,Bool.false_or,List.any_eq_true] at this
      obtain ⟨e,he,hb⟩:=this
      have h2:=hx2.2
      rw [List.any_eq_false] at h2
      exact absurd hb (h2 e (hall e he))
     ·exact h1
    have:=zL8 (B:=B) (w0:=w0) (G:=G) a σ.next (σ.new (.map es))
    exact zFK (by rw [this]; exact ⟨⟨rfl,rfl⟩,⟨rfl,rfl⟩,trivial⟩) x (List.mem_filter.2 ⟨hx1,hlast⟩)
   ·refine hK es (hp.trans ?_)
    have hpd:(e0 :: d0).Perm zL0:=by
     refine (List.perm_ext_iff_of_nodup hn (by decide)).2 fun x=>⟨hs x,hall x⟩
    exact ((hpd.filter _).map ent).trans (by rfl)
  | false =>
   have hnf:∃ e∈zL0,e∉e0 :: d0:=by
    rw [List.all_eq_false] at hfull
    obtain ⟨e,he,h⟩:=hfull
    exact ⟨e,he,fun h'=>h (hcont.2 h')⟩
   have hlast:∀ x,zKR zL1 zL0 x=true->∀ d:List Nat,(∀ e∈d,e∈e0 :: d0)->zFA zL1 zL0 d x.2=false:=by
    intro x hx d hd
    rw [zKT hx,List.all_eq_false]
    obtain ⟨e,he,h⟩:=hnf
    exact ⟨e,he,fun h'=>h (hd e (hcont.1 h'))⟩
   have hnew:zL6.filter (zFB zL1 zL0 (e0 :: d0))=[]:=by
    rw [List.filter_eq_nil_iff]
    intro x hx
    show ¬ (zFA zL1 zL0 (e0 :: d0) x.2 && !zFA zL1 zL0 d0 x.2)=true
    rcases zLE hx with ⟨h1,_⟩ | h1 | h1
    ·rw [zKU h1]; simp
    ·rw [zKS h1,zKS h1]; simp
    ·rw [hlast x h1 _ (fun _ h=>h)]; simp
   rw [hnew]
   refine ⟨zKN fun x hx => ?_,zKO fun x hx => ?_⟩
   ·obtain ⟨hx1,hx2⟩:=List.mem_filter.1 hx
    have hb:zKQ zL1 zL0 x=true:=by
     unfold zFC at hx2
     simp only [Bool.and_eq_true,Bool.not_eq_true'] at hx2
     rcases zLE hx1 with ⟨h1,_⟩ | h1 | h1
     ·rw [zKU h1] at hx2; cases hx2.1
     ·exact h1
     ·rw [hlast x h1 _ (fun _ h=>h)] at hx2; cases hx2.1
    exact zFK (zH0 (zLD _) _ (zLB a σ.next (σ.new (.map es)))) x (List.mem_filter.2 ⟨hx1,hb⟩)
   ·obtain ⟨hx1,hx2⟩:=List.mem_filter.1 hx
    unfold zFD at hx2
    simp only [Bool.and_eq_true,Bool.not_eq_true'] at hx2
    have hxe:x.2∈zL0:=hcont.1 hx2.1.1
    have hxd:x.2∉e0 :: d0:=fun h=>by rw [hcont.2 h] at hx2; cases hx2.1.2
    have hx0:x.2≠0:=fun h=>hxd (h ▸ h0)
    have hins:insB x=true:=by
     rcases zLE hx1 with ⟨_,h | h⟩ | h1 | h1
     ·exact absurd h hx0
     ·exact h
     ·unfold zKQ at h1; rw [hx2.1.1] at h1; cases h1
     ·unfold zKR at h1; rw [hx2.1.1] at h1; cases h1
    obtain ⟨hop,hgd,hdst⟩:=insB_ok hins
    have hann:(zHI 225).ann 1 x.2 ≠ .frz:=by
     have:(zHI 225).ann 1 x.2 = .ref\/(zHI 225).ann 1 x.2 = .none:=by
      rw [zL3]
      unfold zHH
      dsimp only
      generalize (luk ([]:List Nat) [] 1).contains x.2=q
      cases q
      ·exact .inr rfl
      ·exact .inl rfl
     rcases this with e | e <;> rw [e] <;> simp
    have hkey:=zLF a σ.next x.2 hxe hx0
    have hkk:=keys225 B w0 G
    rw [List.all_eq_true] at hkk
    have hk1:=hkk x.2 hxe
    have hb0:Nat.beq x.2 0=false:=by cases h:Nat.beq x.2 0 with
     | false=>rfl
     | true=>exact absurd (Nat.eq_of_beq_eq_true h) hx0
    rw [hb0,Bool.false_or,Bool.and_eq_true] at hk1
    have hopF:=zKP (P:=(EV B w0 G).P) (ann:=(zHI 225).ann 1 x.2) (o:=x.1) (ρ:=zAA (EV B w0 G).G (zL2 a σ.next).low) (σ:=σ.new (.map es)) (kt:=240) (et:=4) (id:=σ.next) (key:=zKW x.2) (v:=.bool true) (es:=es)
     hann hop rfl (by show (zL2 a σ.next).low (x.2 / 2+1)=_; unfold zDN.low; rw [hkey]; rfl) rfl zL4 hk1.1 (zA6.new_objs _ _) (fun e he=>by
      have he':=hp.subset he
      unfold entries at he'
      rw [List.mem_map] at he'
      obtain ⟨j,hj,rfl⟩:=he'
      rw [List.mem_filter] at hj
      have hk2:=hk1.2
      rw [List.all_eq_true] at hk2
      have hk3:=hk2 j (hs j hj.1)
      have hj0:Nat.beq j 0=false:=by have:=hj.2; simpa using this
      have hxj:Nat.beq x.2 j=false:=by cases h:Nat.beq x.2 j with
       | false=>rfl
       | true=>exact absurd (Nat.eq_of_beq_eq_true h) (fun e=>hxd (e ▸ hj.1))
      rw [hj0,hxj] at hk3
      simp only [Bool.or_self,Bool.false_or] at hk3
      show aeq Tryz.prog 240 (zKW x.2) (zKW j)=some false
      split at hk3
      ·rename_i h; exact h
      ·cases hk3)
    have hgo:∀ (K':zE3),K' (zL2 a σ.next) (σ.new (.map (es++[ent x.2])))->zE6 (EV B w0 G) (zE0 (EV B w0 G)) ((zHI 225).ann 1 x.2) zKZ x.1 K' (zL2 a σ.next) (σ.new (.map es)):=by
     intro K' hK'
     unfold zE6
     rw [hgd]
     dsimp only
     unfold goS
     rw [hop]
     dsimp only
     unfold zE4
     rw [hopF]
     dsimp only
     rw [hdst,zA6.new_set]
     exact hK'
    refine hgo _ (ih (x.2 :: e0 :: d0) (es++[ent x.2]) (List.nodup_cons.2 ⟨hxd,hn⟩) (fun e he => ?_) (List.mem_cons_of_mem _ h0) ?_ (by simp at hf ⊢; omega))
    ·rcases List.mem_cons.1 he with rfl | he
     ·exact hxe
     ·exact hs e he
    ·have:entries (x.2 :: e0 :: d0)=ent x.2 :: entries (e0 :: d0):=by
      unfold entries
      rw [List.filter_cons,hb0]
      rfl
     rw [this]
     exact (List.perm_append_comm.trans (by exact (hp.cons _)))

theorem zLH {K:zE3} {a:zDN} {σ:zA6} (hK:∀ es,es.Perm zKX->K (frE a σ.next) (σ.new (.map es))) :
  zFI (EV B w0 G) (zE0 (EV B w0 G)) (zHI 225) 1 zKZ zL1 zL0 12 [] K a σ:=by
 unfold zFI
 rw [<-zL7,zL9]
 refine ⟨rfl,rfl,rfl,rfl,rfl,rfl,rfl,rfl,rfl,rfl,zKN fun x hx => ?_,?_⟩
 ·obtain ⟨hx1,hx2⟩:=List.mem_filter.1 hx
  have hb:zKQ zL1 zL0 x=true:=by
   unfold zFC at hx2
   simp only [Bool.and_eq_true,Bool.not_eq_true'] at hx2
   rcases zLE hx1 with ⟨h1,_⟩ | h1 | h1
   ·rw [zKU h1] at hx2; cases hx2.1
   ·exact h1
   ·rw [zKT h1] at hx2; exact absurd hx2.1 (by decide)
  exact zFK (zH0 (zLD _) _ (zLA a σ)) x (List.mem_filter.2 ⟨hx1,hb⟩)
 ·show allE _ _
  rw [zLC (fun i a'' σ''=>zFI (EV B w0 G) (zE0 (EV B w0 G)) (zHI 225) 1 zKZ zL1 zL0 11 [i] K a'' σ'')]
  exact draw225 hK 11 [0] [] (by decide) (by decide) (by decide) (by exact .refl _) (by decide)
end
end Go.V
namespace Go.V
open Go.RowKit Go.Proofs

noncomputable def zLI:Array Oper:=match Tryz.prog.funcs[225]? with
 | some fn=>match fn.body with
  | some c=>(zKY 0 c).getD #[]
  | none=>#[]
 | none=>#[]

theorem fn225:Tryz.prog.funcs[225]? = some Tryz.f225:=by kernel_rfl
theorem body225:Tryz.f225.body=some (.seq (.region 0 zLI false) (.seq (.region 1 zKZ true) .ret)):=by kernel_rfl

theorem zDV.tell {E:Env} {f:Nat} {args:List AV} {σ:zA6} {Q Q':AV->zA6->Prop} (h:zDV E f args σ Q) (hq:∀ v σ',Q v σ'->∃ σ'',(∀ g w,Sim E.B E.w0 g σ' w->Sim E.B E.w0 g σ'' w)/\Q' v σ''):zDV E f args σ Q' :=
 ⟨fun g w vs hG hS hv=>(h.run g w vs hG hS hv).mono fun e w' k=>by
  cases e with
  | returned u =>
   obtain ⟨g',σ',a,h1,h2,h3,h4⟩:=k
   obtain ⟨σ'',h5,h6⟩:=hq _ _ h4
   exact ⟨g',σ'',a,h1,h5 _ _ h2,h3,h6⟩
  | outgrown=>exact k
  | panicked c=>exact k⟩

section
variable {B:Nat} {w0:World} {G:Nat->AV}
theorem zLJ (K:zE3) (a:zDN) (σ:zA6):opsS (EV B w0 G) (zE0 (EV B w0 G)) (zHI 225) 0 zLI zLI.toList 0 K a σ=K (a.put (some 0) (.v .nilmap)) σ:=by kernel_rfl
theorem res225 (a:zDN) (i:Nat) (σ:zA6):ares (EV B w0 G).P (frE a i) σ Tryz.f225.results.toList=some (.map i):=by kernel_rfl
theorem reg225a:zE7 Tryz.f225.ntmps zLI=true:=by kernel_rfl
theorem reg225:zE7 Tryz.f225.ntmps zKZ=true:=by kernel_rfl
theorem zLK:zF9 zL1 zL0 zKZ=true:=by kernel_rfl

theorem zLL {σ:zA6} {Q:AV->zA6->Prop} (hQ:Q (.map σ.next) (σ.new (.cmap zKX))):zDV (EV B w0 G) 225 [] σ Q:=by
 have h1:zDV (EV B w0 G) 225 [] σ (fun v σ'=>v = .map σ.next/\∃ es,es.Perm zKX/\σ'=σ.new (.map es)):=by
  refine zEP (E:=EV B w0 G) fn225 body225 (Nat.zero_le _) (zEG (zEC (an:=zHI 225) (zE1 _) reg225a ?_))
  rw [zLJ]
  refine zEG (zFU (an:=zHI 225) (zE1 _) (zKM B w0 G) reg225 zLK (zLH fun es hes=>zEF ?_))
  exact ⟨_,_,_,res225 _ _ _,.refl _,.refl _,rfl,es,hes,rfl⟩
 refine h1.tell fun v σ' k => ?_
 obtain ⟨rfl,es,hes,rfl⟩:=k
 refine ⟨σ.new (.cmap zKX),fun g w hS => ?_,hQ⟩
 have ho:=hS.objs σ.next
 rw [zA6.new_objs] at ho
 obtain ⟨i,ms,clock,h1,h2,h3,h4,h5⟩:=ho
 have:=hS.retell (id:=σ.next) (o':=.cmap zKX) (by rw [zA6.new_objs]; simp) ⟨i,ms,clock,es,h1,h2,h3,h4,h5,hes⟩
 rw [zA6.new_set] at this
 exact this

def zLM:zG5:=fun t args σ Q=>match t,args with
 | .fn f,[]=>Nat.beq f 225&&Q (.map σ.next) (σ.new (.cmap zKX))
 | _,_=>false
theorem zLN:zGR (EV B w0 G) zLM:=fun t args σ Q h=>by
 unfold zLM at h
 split at h
 ·rw [Bool.and_eq_true] at h
  have:=Nat.eq_of_beq_eq_true h.1
  subst this
  exact zLL h.2
 ·cases h

def zLO (f:Nat) (tab:List (List AV×AV)):zG5:=fun t args σ Q=>match t with
 | .fn f'=>Nat.beq f' f&&(match tab.find? (fun p=>AV.sameL p.1 args) with
  | some p=>Q p.2 σ.untok
  | none=>false)
 | _=>false

noncomputable def zLP (lit:AV) (v:AV) (σ:zA6):Bool :=
 match deep Tryz.prog σ 60 v with
 | some v'=>AV.same v' lit
 | none=>false

theorem zLQ {f:Nat} {tab:List (List AV×AV)} (hG:∀ i,zJV (G i)) (h:∀ p∈tab,noIdL p.1=true/\zJW p.2=true/\zDV (EV B w0 G) f p.1 zJZ (fun v σ'=>zLP p.2 v σ'=true)):zGR (EV B w0 G) (zLO f tab):=fun t args σ Q hq=>by
 unfold zLO at hq
 split at hq
 ·rw [Bool.and_eq_true] at hq
  have:=Nat.eq_of_beq_eq_true hq.1
  subst this
  have h2:=hq.2
  split at h2
  ·rename_i p hp
   have hm:=List.mem_of_find?_eq_some hp
   have hs:=List.find?_some hp
   obtain ⟨k1,k2,k3⟩:=h p hm
   have:=AV.sameL_ok _ _ hs
   subst this
   refine zDV.pureD 60 hG (noIdL_ok _ k1).1 k3 fun v σ' k => ?_
   unfold zLP at k
   split at k
   ·rename_i v' hv'
    have:=AV.same_ok _ _ k
    subst this
    exact ⟨_,_,hv',.refl _,(zJX _ k2).1,h2⟩
   ·cases k
  ·cases h2
 ·cases hq

def G1:Nat->AV
 | 0 => .vptr [.str ⟨#[43]⟩,.str ⟨#[45]⟩,.str ⟨#[42]⟩,.str ⟨#[47]⟩,.str ⟨#[109,111,100]⟩,.str ⟨#[45]⟩]
 | _+1 => .undef
theorem zLR:∀ i,zJV (G1 i)
 | 0=>(zJX (.vptr [.str ⟨#[43]⟩,.str ⟨#[45]⟩,.str ⟨#[42]⟩,.str ⟨#[47]⟩,.str ⟨#[109,111,100]⟩,.str ⟨#[45]⟩]) rfl).1
 | _+1 => .undef
end
end Go.V
namespace Go.V
def at1 (s:UInt8):AV:=.agg [.int .i64 3,.int .i64 0,.str ⟨#[s]⟩,.nilslice]
def L1 (xs:List AV):AV:=.slice 4 xs .full
def zLS:List AV:=[(.agg [(.int .i64 0),(.int .i64 1),(.slice 4 [(.agg [(.int .i64 1),(.int .i64 0),(.str ⟨⟨[]⟩⟩),.nilslice])] .full),.nilslice,(.slice 4 [(.agg [(.int .i64 5),(.int .i64 0),(.str ⟨⟨[61]⟩⟩),(.slice 4 [(.agg [(.int .i64 1),(.int .i64 0),(.str ⟨⟨[]⟩⟩),.nilslice]),(.agg [(.int .i64 3),(.int .i64 0),(.str ⟨⟨[91,93]⟩⟩),.nilslice])] .full)])] .full)]),.int .i64 1]
def zLT:List AV:=[(.agg [(.int .i64 0),(.int .i64 4),(.slice 4 [(.agg [(.int .i64 5),(.int .i64 0),(.str ⟨⟨[46]⟩⟩),(.slice 4 [(.agg [(.int .i64 1),(.int .i64 0),(.str ⟨⟨[]⟩⟩),.nilslice]),(.agg [(.int .i64 1),(.int .i64 1),(.str ⟨⟨[]⟩⟩),.nilslice])] .full)]),(.agg [(.int .i64 1),(.int .i64 2),(.str ⟨⟨[]⟩⟩),.nilslice])] .nn),.nilslice,(.slice 4 [(.agg [(.int .i64 5),(.int .i64 0),(.str ⟨⟨[61]⟩⟩),(.slice 4 [(.agg [(.int .i64 1),(.int .i64 2),(.str ⟨⟨[]⟩⟩),.nilslice]),(.agg [(.int .i64 5),(.int .i64 0),(.str ⟨⟨[46]⟩⟩),(.slice 4 [(.agg [(.int .i64 1),(.int .i64 0),(.str ⟨⟨[]⟩⟩),.nilslice]),(.agg [(.int .i64 1),(.int .i64 3),(.str ⟨⟨[]⟩⟩),.nilslice])] .full)])] .full)]),(.agg [(.int .i64 5),(.int .i64 0),(.str ⟨⟨[109,101,114,103,101]⟩⟩),(.slice 4 [(.agg [(.int .i64 1),(.int .i64 1),(.str ⟨⟨[]⟩⟩),.nilslice]),(.agg [(.int .i64 1),(.int .i64 3),(.str ⟨⟨[]⟩⟩),.nilslice])] .nn)])] .full)]),.int .i64 2]
def zLU:List AV:=[(.agg [(.int .i64 0),(.int .i64 1),(.slice 4 [(.agg [(.int .i64 3),(.int .i64 0),(.str ⟨⟨[91,93]⟩⟩),.nilslice]),(.agg [(.int .i64 1),(.int .i64 0),(.str ⟨⟨[]⟩⟩),.nilslice])] .nn),.nilslice,(.slice 4 [(.agg [(.int .i64 5),(.int .i64 0),(.str ⟨⟨[109,101,114,103,101]⟩⟩),(.slice 4 [(.agg [(.int .i64 1),(.int .i64 0),(.str ⟨⟨[]⟩⟩),.nilslice])] .nn)])] .full)]),.int .i64 2]
def zLV:List AV:=[(.agg [(.int .i64 0),(.int .i64 5),(.slice 4 [(.agg [(.int .i64 5),(.int .i64 0),(.str ⟨⟨[46]⟩⟩),(.slice 4 [(.agg [(.int .i64 1),(.int .i64 0),(.str ⟨⟨[]⟩⟩),.nilslice]),(.agg [(.int .i64 1),(.int .i64 1),(.str ⟨⟨[]⟩⟩),.nilslice])] .full)]),(.agg [(.int .i64 1),(.int .i64 2),(.str ⟨⟨[]⟩⟩),.nilslice]),(.agg [(.int .i64 1),(.int .i64 3),(.str ⟨⟨[]⟩⟩),.nilslice])] .nn),.nilslice,(.slice 4 [(.agg [(.int .i64 5),(.int .i64 0),(.str ⟨⟨[61]⟩⟩),(.slice 4 [(.agg [(.int .i64 1),(.int .i64 3),(.str ⟨⟨[]⟩⟩),.nilslice]),(.agg [(.int .i64 5),(.int .i64 0),(.str ⟨⟨[46]⟩⟩),(.slice 4 [(.agg [(.int .i64 1),(.int .i64 0),(.str ⟨⟨[]⟩⟩),.nilslice]),(.agg [(.int .i64 1),(.int .i64 4),(.str ⟨⟨[]⟩⟩),.nilslice])] .full)])] .full)]),(.agg [(.int .i64 5),(.int .i64 0),(.str ⟨⟨[109,101,114,103,101]⟩⟩),(.slice 4 [(.agg [(.int .i64 1),(.int .i64 1),(.str ⟨⟨[]⟩⟩),.nilslice]),(.agg [(.int .i64 1),(.int .i64 2),(.str ⟨⟨[]⟩⟩),.nilslice]),(.agg [(.int .i64 1),(.int .i64 4),(.str ⟨⟨[]⟩⟩),.nilslice])] .nn)])] .full)]),.int .i64 3]
def zLW:List AV:=[(.agg [(.int .i64 0),(.int .i64 5),(.slice 4 [(.agg [(.int .i64 1),(.int .i64 0),(.str ⟨⟨[]⟩⟩),.nilslice]),(.agg [(.int .i64 5),(.int .i64 0),(.str ⟨⟨[46]⟩⟩),(.slice 4 [(.agg [(.int .i64 1),(.int .i64 1),(.str ⟨⟨[]⟩⟩),.nilslice]),(.agg [(.int .i64 1),(.int .i64 2),(.str ⟨⟨[]⟩⟩),.nilslice])] .full)]),(.agg [(.int .i64 1),(.int .i64 3),(.str ⟨⟨[]⟩⟩),.nilslice])] .nn),.nilslice,(.slice 4 [(.agg [(.int .i64 5),(.int .i64 0),(.str ⟨⟨[61]⟩⟩),(.slice 4 [(.agg [(.int .i64 1),(.int .i64 3),(.str ⟨⟨[]⟩⟩),.nilslice]),(.agg [(.int .i64 5),(.int .i64 0),(.str ⟨⟨[46]⟩⟩),(.slice 4 [(.agg [(.int .i64 1),(.int .i64 1),(.str ⟨⟨[]⟩⟩),.nilslice]),(.agg [(.int .i64 1),(.int .i64 4),(.str ⟨⟨[]⟩⟩),.nilslice])] .full)])] .full)]),(.agg [(.int .i64 5),(.int .i64 0),(.str ⟨⟨[109,101,114,103,101]⟩⟩),(.slice 4 [(.agg [(.int .i64 1),(.int .i64 0),(.str ⟨⟨[]⟩⟩),.nilslice]),(.agg [(.int .i64 1),(.int .i64 2),(.str ⟨⟨[]⟩⟩),.nilslice]),(.agg [(.int .i64 1),(.int .i64 4),(.str ⟨⟨[]⟩⟩),.nilslice])] .nn)])] .full)]),.int .i64 3]
def zLX:List AV:=[(.agg [(.int .i64 0),(.int .i64 2),(.slice 4 [(.agg [(.int .i64 3),(.int .i64 0),(.str ⟨⟨[91,93]⟩⟩),.nilslice]),(.agg [(.int .i64 1),(.int .i64 0),(.str ⟨⟨[]⟩⟩),.nilslice]),(.agg [(.int .i64 1),(.int .i64 1),(.str ⟨⟨[]⟩⟩),.nilslice])] .nn),.nilslice,(.slice 4 [(.agg [(.int .i64 5),(.int .i64 0),(.str ⟨⟨[109,101,114,103,101]⟩⟩),(.slice 4 [(.agg [(.int .i64 1),(.int .i64 0),(.str ⟨⟨[]⟩⟩),.nilslice]),(.agg [(.int .i64 1),(.int .i64 1),(.str ⟨⟨[]⟩⟩),.nilslice])] .nn)])] .full)]),.int .i64 3]
def zLY:List AV:=[(.agg [(.int .i64 0),(.int .i64 2),(.slice 4 [(.agg [(.int .i64 1),(.int .i64 0),(.str ⟨⟨[]⟩⟩),.nilslice]),(.agg [(.int .i64 3),(.int .i64 0),(.str ⟨⟨[91,93]⟩⟩),.nilslice]),(.agg [(.int .i64 1),(.int .i64 1),(.str ⟨⟨[]⟩⟩),.nilslice])] .nn),.nilslice,(.slice 4 [(.agg [(.int .i64 5),(.int .i64 0),(.str ⟨⟨[109,101,114,103,101]⟩⟩),(.slice 4 [(.agg [(.int .i64 1),(.int .i64 0),(.str ⟨⟨[]⟩⟩),.nilslice]),(.agg [(.int .i64 1),(.int .i64 1),(.str ⟨⟨[]⟩⟩),.nilslice])] .nn)])] .full)]),.int .i64 3]
def zLZ:List (List AV×AV):=[(zLS,.bool true),(zLT,.bool true),(zLU,.bool true),(zLV,.bool true),(zLW,.bool true),(zLX,.bool true),(zLY,.bool true)]
def prog2:AV:=(.agg [(.slice 3 [(.agg [(.str ⟨⟨[109,101,114,103,101]⟩⟩),(.int .i64 1),(.slice 5 [(.agg [(.int .i64 0),(.int .i64 1),(.slice 4 [(.agg [(.int .i64 1),(.int .i64 0),(.str ⟨⟨[]⟩⟩),.nilslice])] .full),.nilslice,(.slice 4 [(.agg [(.int .i64 5),(.int .i64 0),(.str ⟨⟨[61]⟩⟩),(.slice 4 [(.agg [(.int .i64 1),(.int .i64 0),(.str ⟨⟨[]⟩⟩),.nilslice]),(.agg [(.int .i64 3),(.int .i64 0),(.str ⟨⟨[91,93]⟩⟩),.nilslice])] .full)])] .full)])] .full)]),(.agg [(.str ⟨⟨[109,101,114,103,101]⟩⟩),(.int .i64 2),(.slice 5 [(.agg [(.int .i64 0),(.int .i64 4),(.slice 4 [(.agg [(.int .i64 5),(.int .i64 0),(.str ⟨⟨[46]⟩⟩),(.slice 4 [(.agg [(.int .i64 1),(.int .i64 0),(.str ⟨⟨[]⟩⟩),.nilslice]),(.agg [(.int .i64 1),(.int .i64 1),(.str ⟨⟨[]⟩⟩),.nilslice])] .full)]),(.agg [(.int .i64 1),(.int .i64 2),(.str ⟨⟨[]⟩⟩),.nilslice])] .nn),.nilslice,(.slice 4 [(.agg [(.int .i64 5),(.int .i64 0),(.str ⟨⟨[61]⟩⟩),(.slice 4 [(.agg [(.int .i64 1),(.int .i64 2),(.str ⟨⟨[]⟩⟩),.nilslice]),(.agg [(.int .i64 5),(.int .i64 0),(.str ⟨⟨[46]⟩⟩),(.slice 4 [(.agg [(.int .i64 1),(.int .i64 0),(.str ⟨⟨[]⟩⟩),.nilslice]),(.agg [(.int .i64 1),(.int .i64 3),(.str ⟨⟨[]⟩⟩),.nilslice])] .full)])] .full)]),(.agg [(.int .i64 5),(.int .i64 0),(.str ⟨⟨[109,101,114,103,101]⟩⟩),(.slice 4 [(.agg [(.int .i64 1),(.int .i64 1),(.str ⟨⟨[]⟩⟩),.nilslice]),(.agg [(.int .i64 1),(.int .i64 3),(.str ⟨⟨[]⟩⟩),.nilslice])] .nn)])] .full)]),(.agg [(.int .i64 0),(.int .i64 1),(.slice 4 [(.agg [(.int .i64 3),(.int .i64 0),(.str ⟨⟨[91,93]⟩⟩),.nilslice]),(.agg [(.int .i64 1),(.int .i64 0),(.str ⟨⟨[]⟩⟩),.nilslice])] .nn),.nilslice,(.slice 4 [(.agg [(.int .i64 5),(.int .i64 0),(.str ⟨⟨[109,101,114,103,101]⟩⟩),(.slice 4 [(.agg [(.int .i64 1),(.int .i64 0),(.str ⟨⟨[]⟩⟩),.nilslice])] .nn)])] .full)])] .nn)]),(.agg [(.str ⟨⟨[109,101,114,103,101]⟩⟩),(.int .i64 3),(.slice 5 [(.agg [(.int .i64 0),(.int .i64 5),(.slice 4 [(.agg [(.int .i64 5),(.int .i64 0),(.str ⟨⟨[46]⟩⟩),(.slice 4 [(.agg [(.int .i64 1),(.int .i64 0),(.str ⟨⟨[]⟩⟩),.nilslice]),(.agg [(.int .i64 1),(.int .i64 1),(.str ⟨⟨[]⟩⟩),.nilslice])] .full)]),(.agg [(.int .i64 1),(.int .i64 2),(.str ⟨⟨[]⟩⟩),.nilslice]),(.agg [(.int .i64 1),(.int .i64 3),(.str ⟨⟨[]⟩⟩),.nilslice])] .nn),.nilslice,(.slice 4 [(.agg [(.int .i64 5),(.int .i64 0),(.str ⟨⟨[61]⟩⟩),(.slice 4 [(.agg [(.int .i64 1),(.int .i64 3),(.str ⟨⟨[]⟩⟩),.nilslice]),(.agg [(.int .i64 5),(.int .i64 0),(.str ⟨⟨[46]⟩⟩),(.slice 4 [(.agg [(.int .i64 1),(.int .i64 0),(.str ⟨⟨[]⟩⟩),.nilslice]),(.agg [(.int .i64 1),(.int .i64 4),(.str ⟨⟨[]⟩⟩),.nilslice])] .full)])] .full)]),(.agg [(.int .i64 5),(.int .i64 0),(.str ⟨⟨[109,101,114,103,101]⟩⟩),(.slice 4 [(.agg [(.int .i64 1),(.int .i64 1),(.str ⟨⟨[]⟩⟩),.nilslice]),(.agg [(.int .i64 1),(.int .i64 2),(.str ⟨⟨[]⟩⟩),.nilslice]),(.agg [(.int .i64 1),(.int .i64 4),(.str ⟨⟨[]⟩⟩),.nilslice])] .nn)])] .full)]),(.agg [(.int .i64 0),(.int .i64 5),(.slice 4 [(.agg [(.int .i64 1),(.int .i64 0),(.str ⟨⟨[]⟩⟩),.nilslice]),(.agg [(.int .i64 5),(.int .i64 0),(.str ⟨⟨[46]⟩⟩),(.slice 4 [(.agg [(.int .i64 1),(.int .i64 1),(.str ⟨⟨[]⟩⟩),.nilslice]),(.agg [(.int .i64 1),(.int .i64 2),(.str ⟨⟨[]⟩⟩),.nilslice])] .full)]),(.agg [(.int .i64 1),(.int .i64 3),(.str ⟨⟨[]⟩⟩),.nilslice])] .nn),.nilslice,(.slice 4 [(.agg [(.int .i64 5),(.int .i64 0),(.str ⟨⟨[61]⟩⟩),(.slice 4 [(.agg [(.int .i64 1),(.int .i64 3),(.str ⟨⟨[]⟩⟩),.nilslice]),(.agg [(.int .i64 5),(.int .i64 0),(.str ⟨⟨[46]⟩⟩),(.slice 4 [(.agg [(.int .i64 1),(.int .i64 1),(.str ⟨⟨[]⟩⟩),.nilslice]),(.agg [(.int .i64 1),(.int .i64 4),(.str ⟨⟨[]⟩⟩),.nilslice])] .full)])] .full)]),(.agg [(.int .i64 5),(.int .i64 0),(.str ⟨⟨[109,101,114,103,101]⟩⟩),(.slice 4 [(.agg [(.int .i64 1),(.int .i64 0),(.str ⟨⟨[]⟩⟩),.nilslice]),(.agg [(.int .i64 1),(.int .i64 2),(.str ⟨⟨[]⟩⟩),.nilslice]),(.agg [(.int .i64 1),(.int .i64 4),(.str ⟨⟨[]⟩⟩),.nilslice])] .nn)])] .full)]),(.agg [(.int .i64 0),(.int .i64 2),(.slice 4 [(.agg [(.int .i64 3),(.int .i64 0),(.str ⟨⟨[91,93]⟩⟩),.nilslice]),(.agg [(.int .i64 1),(.int .i64 0),(.str ⟨⟨[]⟩⟩),.nilslice]),(.agg [(.int .i64 1),(.int .i64 1),(.str ⟨⟨[]⟩⟩),.nilslice])] .nn),.nilslice,(.slice 4 [(.agg [(.int .i64 5),(.int .i64 0),(.str ⟨⟨[109,101,114,103,101]⟩⟩),(.slice 4 [(.agg [(.int .i64 1),(.int .i64 0),(.str ⟨⟨[]⟩⟩),.nilslice]),(.agg [(.int .i64 1),(.int .i64 1),(.str ⟨⟨[]⟩⟩),.nilslice])] .nn)])] .full)]),(.agg [(.int .i64 0),(.int .i64 2),(.slice 4 [(.agg [(.int .i64 1),(.int .i64 0),(.str ⟨⟨[]⟩⟩),.nilslice]),(.agg [(.int .i64 3),(.int .i64 0),(.str ⟨⟨[91,93]⟩⟩),.nilslice]),(.agg [(.int .i64 1),(.int .i64 1),(.str ⟨⟨[]⟩⟩),.nilslice])] .nn),.nilslice,(.slice 4 [(.agg [(.int .i64 5),(.int .i64 0),(.str ⟨⟨[109,101,114,103,101]⟩⟩),(.slice 4 [(.agg [(.int .i64 1),(.int .i64 0),(.str ⟨⟨[]⟩⟩),.nilslice]),(.agg [(.int .i64 1),(.int .i64 1),(.str ⟨⟨[]⟩⟩),.nilslice])] .nn)])] .full)])] .nn)])] .nn)])
def query2:AV:=(.tuple [(.agg [(.int .i64 1),(.slice 4 [(.agg [(.int .i64 5),(.int .i64 0),(.str ⟨⟨[109,101,114,103,101]⟩⟩),(.slice 4 [(.agg [(.int .i64 5),(.int .i64 0),(.str ⟨⟨[46]⟩⟩),(.slice 4 [(.agg [(.int .i64 3),(.int .i64 0),(.str ⟨⟨[97]⟩⟩),.nilslice]),(.agg [(.int .i64 3),(.int .i64 0),(.str ⟨⟨[91,93]⟩⟩),.nilslice])] .nn)]),(.agg [(.int .i64 5),(.int .i64 0),(.str ⟨⟨[46]⟩⟩),(.slice 4 [(.agg [(.int .i64 3),(.int .i64 0),(.str ⟨⟨[98]⟩⟩),.nilslice]),(.agg [(.int .i64 3),(.int .i64 0),(.str ⟨⟨[91,93]⟩⟩),.nilslice])] .nn)]),(.agg [(.int .i64 1),(.int .i64 0),(.str ⟨⟨[]⟩⟩),.nilslice])] .nn)])] .full)]),(.int .i64 0)])
def tab69:List (List AV×AV):=[([.int .i64 2],prog2)]
def args75:List AV:=[.slice 1 [L1 [at1 97],L1 [at1 98]] .full]
def tab75:List (List AV×AV):=[(args75,query2)]
def args18:List AV:=[.slice 1 [L1 [at1 97,at1 98],L1 [at1 97]] .full,L1 [at1 97,at1 97,at1 98]]
def res18:AV:=.tuple [.slice 1 [.int .i64 0,.int .i64 1,.int .i64 0] .nn,.bool true,.int .i64 0]
def tab18:List (List AV×AV):=[(args18,res18)]
def tab66:List (List AV×AV):=[([at1 97],.int .i64 0),([at1 98],.int .i64 0),([at1 99],.int .i64 0)]
noncomputable def T0:Nat->Option zG5:=luk none [(225,some zLM)]
noncomputable def T1:Nat->Option zG5:=luk none [(225,some zLM),(214,some (zLO 214 zLZ)),(69,some (zLO 69 tab69))]
noncomputable def T3:Nat->Option zG5:=luk none [(225,some zLM),(75,some (zLO 75 tab75)),(18,some (zLO 18 tab18)),(66,some (zLO 66 tab66))]

theorem zM0 {E:Env}:∀ {l:List (Nat×Option zG5)} {f:Nat} {h:zG5},(∀ p∈l,∀ h,p.2=some h->zGR E h)->luk none l f=some h->zGR E h
 | [],_,_,_,e=>by cases e
 | (k,v) :: l,f,h,hp,e=>by
  unfold luk at e
  split at e
  ·exact hp (k,v) (by simp) h e
  ·exact zM0 (fun p hm=>hp p (by simp [hm])) e

theorem zM1 {B:Nat} {w0:World} {T:Nat->Option zG5} (hT:∀ f h,T f=some h->zGR (EV B w0 G1) h) {f:Nat} {args:List AV} {lit:AV}
  (h:zHD (EV B w0 G1) zHI T 300 200 (.fn f) args zJZ (zLP lit)=true):zDV (EV B w0 G1) f args zJZ (fun v σ'=>zLP lit v σ'=true) :=
 zHF (zKM B w0 G1) hT 200 (.fn f) args zJZ _ h

theorem zM2 (B:Nat) (w0:World):∀ f h,T0 f=some h->zGR (EV B w0 G1) h:=fun f h e=>zM0 (fun p hp h e=>by
 simp only [List.mem_cons,List.not_mem_nil,or_false] at hp
 subst hp
 cases e; exact zLN) e
end Go.V
