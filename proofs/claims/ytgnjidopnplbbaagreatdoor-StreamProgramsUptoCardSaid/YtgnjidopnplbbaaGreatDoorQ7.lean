/- A part of the proof of the statement S8 (texts brought together and shortened by a program of this work). -/
import Derived.Test.YtgnjidopnplbbaaGreatDoorQ5
set_option linter.unusedSimpArgs false
set_option linter.unusedVariables false
namespace Go.V
open Go.RowKit

abbrev Rf {α:Type} (a:α):Prop:=a=a

inductive zHJ:Type 1 where
 | leaf (r:Res)
 | br (b:Bool) (x y:zHJ)
 | req (p:Prop) (x:zHJ)
 | ex (α:Type) (x:α->zHJ)

def zHJ.post (k:Res->Prop):zHJ->Prop
 | .leaf r=>k r
 | .br b x y=>bcase b (x.post k) (y.post k)
 | .req p x=>p/\x.post k
 | .ex α x=>∃ a,(x a).post k

def zHJ.bind (f:Res->zHJ):zHJ->zHJ
 | .leaf r=>f r
 | .br b x y => .br b (x.bind f) (y.bind f)
 | .req p x => .req p (x.bind f)
 | .ex α x => .ex α fun a=>(x a).bind f

def zHJ.Is (c:zHJ) (r:Res):Prop:=∀ k,c.post k->k r

theorem zHJ.Is.leaf (r:Res):(zHJ.leaf r).Is r:=fun _ h=>h
theorem zHJ.Is.br {b:Bool} {x y:zHJ} {r:Res} (hx:b=true->x.Is r) (hy:b=false->y.Is r):(zHJ.br b x y).Is r:=fun k h=>by
 cases b
 ·exact hy rfl k h
 ·exact hx rfl k h
theorem zHJ.Is.req {p:Prop} {x:zHJ} {r:Res} (hx:p->x.Is r):(zHJ.req p x).Is r:=fun k h=>hx h.1 k h.2
theorem zHJ.Is.ex {α:Type} {x:α->zHJ} {r:Res} (hx:∀ a,(x a).Is r):(zHJ.ex α x).Is r:=fun k ⟨a,h⟩=>hx a k h
theorem zHJ.post_bind {f:Res->zHJ} {k:Res->Prop}:∀ {c:zHJ},(c.bind f).post k->c.post fun r=>(f r).post k
 | .leaf r,h=>h
 | .br b x y,h=>by
  cases b
  ·exact post_bind (c:=y) h
  ·exact post_bind (c:=x) h
 | .req p x,h=>⟨h.1,post_bind h.2⟩
 | .ex α x,⟨a,h⟩=>⟨a,post_bind h⟩
theorem zHJ.Is.bind {c:zHJ} {r r':Res} {f:Res->zHJ} (h:c.Is r) (hf:(f r).Is r'):(c.bind f).Is r':=fun k hk=>hf k (h _ (zHJ.post_bind hk))

abbrev OH:=Option ((α:Type)×(α->zA5))
def zHK (h:OH) (σ:zA6) (id:Nat) (k:zA5->zHJ):zHJ :=
 match h with
 | none=>k (σ.objs id)
 | some ⟨α,f⟩ => .ex α fun x => .req (σ.objs id=f x) (k (f x))
theorem zHL {h:OH} {σ:zA6} {id:Nat} {k:zA5->zHJ} {r:Res} (hk:(k (σ.objs id)).Is r):(zHK h σ id k).Is r:=by
 unfold zHK
 split
 ·exact hk
 ·exact .ex fun x => .req fun e=>by rw [<-e]; exact hk

section
variable (P:Program) (h:OH)
def zHM (σ:zA6) (t:Nat) (x i:AV):zHJ :=
 match i with
 | .int k n =>
  match P.underlying t,x with
  | some (.slice e),.slice sz xs m =>
   if szT P e=some sz/\0<sz then .req (0<=n/\n<xs.length) (.leaf (.ok (.vptr (xs.getD n.toNat .undef).cells) σ)) else .leaf .fail
  | some (.slice e),.rslice id off len =>
   zHK h σ id fun ob=>match ob with
   | .cells cs e' sz g=>if szT P e=some sz then .req (0<=n/\n<len) (.leaf (.ok (.ptr id ((off+n.toNat)*sz)) σ)) else .leaf .fail
   | _ => .leaf .fail
  | _,_ => .leaf (.of σ (zAU P σ t x (.int k n)))
 | i => .leaf (.of σ (zAU P σ t x i))

theorem zHN {σ:zA6} {t:Nat} {x i:AV}:(zHM P h σ t x i).Is (.of σ (zAU P σ t x i)):=by
 unfold zHM
 split
 ·rename_i k n
  split
  ·rename_i e sz xs m hu
   split
   ·rename_i hc
    refine .req fun hn => ?_
    have h3:n.toNat<xs.length:=by omega
    have:zAU P σ t (.slice sz xs m) (.int k n)=some (.vptr (xs.getD n.toNat .undef).cells):=by
     simp only [zAU,hu]
     rw [if_pos ⟨hn.1,hn.2,hc.1,hc.2⟩]
     simp [h3,List.getD]
    rw [this]; exact .leaf _
   ·rename_i hc
    have:zAU P σ t (.slice sz xs m) (.int k n)=none:=by
     simp only [zAU,hu]
     rw [if_neg fun h=>hc ⟨h.2.2.1,h.2.2.2⟩]
    rw [this]; exact .leaf _
  ·rename_i e id off len hu
   refine zHL ?_
   split
   ·rename_i cs e' sz g ho
    split
    ·rename_i hc
     refine .req fun hn => ?_
     have:zAU P σ t (.rslice id off len) (.int k n)=some (.ptr id ((off+n.toNat)*sz)):=by
      simp only [zAU,hu,ho]
      rw [if_pos ⟨hn.1,hn.2,hc⟩]
     rw [this]; exact .leaf _
    ·rename_i hc
     have:zAU P σ t (.rslice id off len) (.int k n)=none:=by
      simp only [zAU,hu,ho]
      rw [if_neg fun h=>hc h.2.2]
     rw [this]; exact .leaf _
   ·rename_i hne
    have:zAU P σ t (.rslice id off len) (.int k n)=none:=by
     simp only [zAU,hu]
     try (split <;> first | rfl | (rename_i h; exact absurd h (hne _ _ _ _)))
    rw [this]; exact .leaf _
  ·exact .leaf _
 ·exact .leaf _

def cpart (t:Nat) (cs:List AV) (off:Nat) (k:AV->zHJ):zHJ :=
 match zAC P t with
 | some (some n) => .req (off+n<=cs.length) (k (.agg ((cs.drop off).take n)))
 | some none => .req (off<cs.length) (k (cs.getD off .undef))
 | none => .leaf .fail

theorem cpart_is {t:Nat} {cs:List AV} {off:Nat} {σ:zA6}:(cpart P t cs off fun v => .leaf (.ok v σ)).Is (.of σ (zAE P t cs off)):=by
 unfold cpart zAE
 split
 ·rename_i n hk
  refine .req fun h => ?_
  simp only [hk,if_pos h]; exact .leaf _
 ·rename_i hk
  refine .req fun h => ?_
  have:cs[off]? = some (cs.getD off .undef):=by simp [h,List.getD]
  simp only [hk,this]; exact .leaf _
 ·rename_i hk
  simp only [hk]; exact .leaf _

def cload (σ:zA6) (t:Nat) (x:AV):zHJ :=
 match x with
 | .ptr id off=>zHK h σ id fun ob=>match ob with
  | .cells cs e sz g=>cpart P t cs off fun v => .leaf (.ok v σ)
  | _ => .leaf .fail
 | x => .leaf (.of σ (zAM P σ t x))

theorem cload_is {σ:zA6} {t:Nat} {x:AV}:(cload P h σ t x).Is (.of σ (zAM P σ t x)):=by
 unfold cload
 split
 ·rename_i id off
  refine zHL ?_
  split
  ·rename_i cs e sz g ho
   have:zAM P σ t (.ptr id off)=zAE P t cs off:=by simp only [zAM,ho]
   rw [this]; exact cpart_is P
  ·rename_i hne
   have:zAM P σ t (.ptr id off)=none:=by
    simp only [zAM]
    try (split <;> first | rfl | (rename_i h; exact absurd h (hne _ _ _ _)))
   rw [this]; exact .leaf _
 ·exact .leaf _

def zHO (σ:zA6) (t:Nat) (x v:AV):zHJ :=
 match x with
 | .ptr id off=>zHK h σ id fun ob=>match ob with
  | .cells cs e sz grow =>
   if v.isUndef=false/\szT P t=some v.cells.length/\v.cells.all AV.one=true then
    .req (off+v.cells.length<=cs.length) (.leaf (.ok .undef (σ.set id (.cells (zAF cs off v.cells) e sz grow))))
   else .leaf .fail
  | _ => .leaf .fail
 | x => .leaf (zAN P σ t x v)

theorem zHP {σ:zA6} {t:Nat} {x v:AV}:(zHO P h σ t x v).Is (zAN P σ t x v):=by
 unfold zHO
 split
 ·rename_i id off
  refine zHL ?_
  split
  ·rename_i cs e sz grow ho
   split
   ·rename_i hc
    refine .req fun h => ?_
    have:zAN P σ t (.ptr id off) v = .ok .undef (σ.set id (.cells (zAF cs off v.cells) e sz grow)):=by
     simp only [zAN,ho]
     rw [if_pos ⟨hc.1,hc.2.1,hc.2.2,h⟩]
    rw [this]; exact .leaf _
   ·rename_i hc
    have:zAN P σ t (.ptr id off) v = .fail:=by
     simp only [zAN,ho]
     rw [if_neg fun h=>hc ⟨h.1,h.2.1,h.2.2.1⟩]
    rw [this]; exact .leaf _
  ·rename_i hne
   have:zAN P σ t (.ptr id off) v = .fail:=by
    simp only [zAN]
    try (split <;> first | rfl | (rename_i h; exact absurd h (hne _ _ _ _)))
   rw [this]; exact .leaf _
 ·exact .leaf _

def cbin (σ:zA6) (op:BinOp) (t:Nat) (cst:Bool) (x y:AV):zHJ :=
 match op,x,y with
 | .quo,.int k a,.int k' b=>if k=k' then .req (b≠0) (.leaf (.ok (.int k (k.wrap (a.tdiv b))) σ)) else .leaf .fail
 | .rem,.int k a,.int k' b=>if k=k' then .req (b≠0) (.leaf (.ok (.int k (a.tmod b)) σ)) else .leaf .fail
 | .add,.str a,.str b => .req (a.size+b.size<=4611686018427387904) (.leaf (.ok (.str (a++b)) σ))
 | op,x,y => .leaf (.of σ (zAL P op t cst x y))

theorem cbin_is {σ:zA6} {op:BinOp} {t:Nat} {cst:Bool} {x y:AV}:(cbin P σ op t cst x y).Is (.of σ (zAL P op t cst x y)):=by
 unfold cbin
 split
 ·rename_i k a k' b
  split
  ·rename_i hk
   subst hk
   refine .req fun h => ?_
   simp only [zAL,aint,if_neg h]
   simp; exact .leaf _
  ·rename_i hk
   simp only [zAL]
   simp [hk]; exact .leaf _
 ·rename_i k a k' b
  split
  ·rename_i hk
   subst hk
   refine .req fun h => ?_
   simp only [zAL,aint,if_neg h]
   simp; exact .leaf _
  ·rename_i hk
   simp only [zAL]
   simp [hk]; exact .leaf _
 ·rename_i a b
  refine .req fun h => ?_
  simp only [zAL,zAJ,if_pos h]
  exact .leaf _
 ·exact .leaf _

def zHQ (x:AV) (y:Nat) (k:Nat->zHJ):zHJ :=
 match x with
 | .int _ i => .req (0<=i/\i<=y) (k i.toNat)
 | _ => .leaf .fail

theorem zHR {x:AV} {y:Nat} {k:Nat->zHJ} {r:Res} {f:Option Nat->Res} (hn:f none = .fail) (h:∀ i,(k i).Is (f (some i))) (hr:f (zAP x y)=r):(zHQ x y k).Is r:=by
 subst hr
 unfold zHQ
 split
 ·rename_i kk i
  refine .req fun hi => ?_
  simp only [zAP,if_pos hi]
  exact h _
 ·rename_i hne
  have:zAP x y=none:=by
   unfold zAP
   split
   ·exact absurd rfl (hne _ _)
   ·rfl
  rw [this,hn]; exact .leaf _

def zHS (len:Nat) (lo hi:Option AV) (top:Nat) (k:Nat->Nat->zHJ):zHJ :=
 match hi with
 | some v=>zHQ v top fun h=>match lo with
  | some w=>zHQ w h fun l=>k l h
  | none=>k 0 h
 | none=>match lo with
  | some w=>zHQ w len fun l=>k l len
  | none=>k 0 len

theorem zHT {len:Nat} {lo hi:Option AV} {top:Nat} {k:Nat->Nat->zHJ} {f:Option (Nat×Nat)->Res} (hn:f none = .fail) (h:∀ l i,(k l i).Is (f (some (l,i)))) :
  (zHS len lo hi top k).Is (f (zAQ len lo hi top)):=by
 unfold zHS zAQ
 cases hi with
 | some v =>
  refine zHR (f:=fun o=>f (match o with | some h=>(match (match lo with | some v=>zAP v h | none=>some 0) with | some l=>some (l,h) | none=>none) | none=>none)) hn (fun i => ?_) rfl
  cases lo with
  | some w=>exact zHR (f:=fun o=>f (match o with | some l=>some (l,i) | none=>none)) hn (fun l=>h l i) rfl
  | none=>exact h 0 i
 | none =>
  cases lo with
  | some w=>exact zHR (f:=fun o=>f (match o with | some l=>some (l,len) | none=>none)) hn (fun l=>h l len) rfl
  | none=>exact h 0 len

def zHU (σ:zA6) (t:Nat) (x:AV) (lo hi mx:Option AV):zHJ :=
 match P.underlying t,x,mx with
 | some .string,.str s,none=>zHS s.size lo hi s.size fun l h => .leaf (.ok (.str (s.extract l h)) σ)
 | some (.slice e),.slice sz xs m,none =>
  if szT P e=some sz then
   match m,hi with
   | .any,hi=>zHS xs.length lo hi xs.length fun l h => .leaf (.ok (.slice sz ((xs.take h).drop l) .any) σ)
   | .full,none=>zHS xs.length lo none xs.length fun l h => .leaf (.ok (.slice sz (xs.drop l) .full) σ)
   | .full,some hi=>zHS xs.length lo (some hi) xs.length fun l h => .br (decide (h=xs.length)) (.leaf (.ok (.slice sz ((xs.take h).drop l) .full) σ)) (.leaf (.ok (.slice sz ((xs.take h).drop l) .nn) σ))
   | _,hi=>zHS xs.length lo hi xs.length fun l h => .leaf (.ok (.slice sz ((xs.take h).drop l) .nn) σ)
  else .leaf .fail
 | some (.slice e),.rslice id off len,none =>
  zHK h σ id fun ob=>match ob with
  | .cells cs e' sz g=>if szT P e=some sz then zHS len lo hi len fun l h => .leaf (.ok (.rslice id (off+l) (h - l)) σ) else .leaf .fail
  | _ => .leaf .fail
 | some (.slice e),.rslice id off len,some v =>
  zHK h σ id fun ob=>match ob,hi with
  | .cells cs e' sz g,some hi=>if szT P e=some sz then zHQ v len fun c=>zHS len lo (some hi) c fun l h => .leaf (.ok (.view id (off+l) (h - l)) σ) else .leaf .fail
  | _,_ => .leaf .fail
 | _,_,_ => .leaf (.of σ (zAR P σ t x lo hi mx))

theorem zHV {σ:zA6} {t:Nat} {x:AV} {lo hi mx:Option AV}:(zHU P h σ t x lo hi mx).Is (.of σ (zAR P σ t x lo hi mx)):=by
 unfold zHU
 split
 ·rename_i s hu
  simp only [zAR,hu]
  exact zHT (f:=fun o=>Res.of σ (match o with | some (l,h)=>some (.str (s.extract l h)) | none=>none)) rfl (fun l i => .leaf _)
 ·rename_i e sz xs m hu
  split
  ·rename_i hc
   simp only [zAR,hu,if_pos hc]
   split
   ·rename_i hi'
    exact zHT (f:=fun o=>Res.of σ (match o with | some (l,h)=>some (.slice sz ((xs.take h).drop l) (if Cap.any = .full/\h=xs.length then .full else if Cap.any = .any then .any else .nn)) | none=>none)) rfl (fun l i=>by simp; exact .leaf _)
   ·have:∀ (l h:Nat),h=xs.length->(xs.take h).drop l=xs.drop l:=by rintro l h rfl; rw [List.take_length]
    have key:zAQ xs.length lo none xs.length=(match (match lo with | some v=>zAP v xs.length | none=>some 0) with | some l=>some (l,xs.length) | none=>none):=by
     unfold zAQ; rfl
    rw [key]
    unfold zHS
    cases lo with
    | some w =>
     exact zHR (f:=fun o=>Res.of σ (match (match o with | some l=>some (l,xs.length) | none=>none:Option (Nat×Nat)) with | some (l,h)=>some (.slice sz ((xs.take h).drop l) (if Cap.full = .full/\h=xs.length then .full else if Cap.full = .any then .any else .nn)) | none=>none)) rfl (fun l=>by simp; exact .leaf _) rfl
    | none=>simp; exact .leaf _
   ·rename_i hi'
    exact zHT (f:=fun o=>Res.of σ (match o with | some (l,h)=>some (.slice sz ((xs.take h).drop l) (if Cap.full = .full/\h=xs.length then .full else if Cap.full = .any then .any else .nn)) | none=>none)) rfl (fun l i=>by
     refine .br (fun hb => ?_) (fun hb => ?_)
     ·have hb':i=xs.length:=by simpa using hb
      simp [hb']; exact .leaf _
     ·have hb':i≠xs.length:=by simpa using hb
      simp [hb']; exact .leaf _)
   ·rename_i h1 h2 h3
    exact zHT (f:=fun o=>Res.of σ (match o with | some (l,h)=>some (.slice sz ((xs.take h).drop l) (if m = .full/\h=xs.length then .full else if m = .any then .any else .nn)) | none=>none)) rfl (fun l i=>by
     have e1:m ≠ .any:=fun e=>h1 e
     have e2:m ≠ .full:=by
      intro e
      cases hh:hi with
      | none=>exact h2 e hh
      | some v=>exact h3 v e hh
     simp [e1,e2]; exact .leaf _)
  ·rename_i hc
   simp only [zAR,hu,if_neg hc]
   exact .leaf _
 ·rename_i e id off len hu
  refine zHL ?_
  split
  ·rename_i cs e' sz g ho
   simp only [zAR,hu,ho]
   split
   ·rename_i hc
    exact zHT (f:=fun o=>Res.of σ (match o with | some (l,h)=>some (.rslice id (off+l) (h - l)) | none=>none)) rfl (fun l i => .leaf _)
   ·exact .leaf _
  ·rename_i hne
   have:zAR P σ t (.rslice id off len) lo hi none=none:=by
    simp only [zAR,hu]
    try (split <;> first | rfl | (rename_i h; exact absurd h (hne _ _ _ _)))
   rw [this]; exact .leaf _
 ·rename_i e id off len v hu
  refine zHL ?_
  split
  ·rename_i cs e' sz g hi' ho
   simp only [zAR,hu,ho]
   split
   ·rename_i hc
    refine zHR (f:=fun o=>Res.of σ (match o with | some c=>(match zAQ len lo (some hi') c with | some (l,h)=>some (.view id (off+l) (h - l)) | none=>none) | none=>none)) rfl (fun c => ?_) ?_
    ·exact zHT (f:=fun o=>Res.of σ (match o with | some (l,h)=>some (.view id (off+l) (h - l)) | none=>none)) rfl (fun l i => .leaf _)
    ·cases zAP v len <;> rfl
   ·exact .leaf _
  ·rename_i hiv hne
   have:∀ hh,(∀ cs e' sz g v,σ.objs id = .cells cs e' sz g->hh=some v->False)->zAR P σ t (.rslice id off len) lo hh (some v)=none:=by
    intro hh hne
    simp only [zAR,hu]
    split
    ·rename_i cs e' sz g ho
     split
     ·cases hh with
      | none=>cases zAP v len <;> rfl
      | some hi'=>exact (hne _ _ _ _ _ ho rfl).elim
     ·rfl
    ·rfl
   rw [this _ (fun cs e' sz g v h1 h2=>hne cs e' sz g v h1 h2)]; exact .leaf _
 ·exact .leaf _

def cpick (e sz:Nat) (cs:List AV) (σ:zA6) (n:Int):Nat->Nat->zHJ
 | _,0 => .leaf .fail
 | j,m+1 => .br (decide (n=j)) (.leaf (.of σ (zAE P e cs (j*sz)))) (cpick e sz cs σ n (j+1) m)

theorem zHW {e sz:Nat} {cs:List AV} {σ:zA6} {n:Int} {r:Res}:∀ (m j:Nat),((hn:(j:Int)<=n)->n<(j+m:Nat)->r = .of σ (zAE P e cs (n.toNat*sz)))->((n<j\/(j+m:Nat)<=n)->r = .fail)->(cpick P e sz cs σ n j m).Is r
 | 0,j,h1,h2=>by
  rw [h2 (by omega)]; exact .leaf _
 | m+1,j,h1,h2=>by
  refine .br (fun hb => ?_) (fun hb => ?_)
  ·have hb':n=j:=by simpa using hb
   rw [h1 (by omega) (by omega),hb',Int.toNat_natCast]; exact .leaf _
  ·have hb':n≠j:=by simpa using hb
   exact zHW m (j+1) (fun hn h=>h1 (by omega) (by omega)) (fun h=>h2 (by omega))

def zHX (σ:zA6) (t:Nat) (x i:AV):zHJ :=
 match i with
 | .int k n =>
  match P.underlying t,x with
  | some (.array len e),.agg cs=>match szT P e with
   | some sz=>cpick P e sz cs σ n 0 len
   | none => .leaf .fail
  | some .string,.str s => .req (0<=n/\n<s.size) (.leaf (.ok (.int .u8 (s.data.toList.getD n.toNat 0).toNat) σ))
  | _,_ => .leaf (.of σ (zAV P t x (.int k n)))
 | i => .leaf (.of σ (zAV P t x i))

theorem zHY {σ:zA6} {t:Nat} {x i:AV}:(zHX P σ t x i).Is (.of σ (zAV P t x i)):=by
 unfold zHX
 split
 ·rename_i k n
  split
  ·rename_i len e cs hu
   split
   ·rename_i sz hz
    refine zHW P len 0 (fun h1 h2 => ?_) (fun h => ?_)
    ·simp only [zAV,hu,hz]
     rw [if_pos ⟨by omega,by omega⟩]
    ·simp only [zAV,hu,hz]
     rw [if_neg (by omega)]; rfl
   ·rename_i hz
    simp only [zAV,hu,hz]
    exact .leaf _
  ·rename_i s hu
   refine .req fun hn => ?_
   have h3:n.toNat<s.data.toList.length:=by
    have:s.data.toList.length=s.size:=Array.length_toList
    omega
   have:zAV P t (.str s) (.int k n)=some (.int .u8 (s.data.toList.getD n.toNat 0).toNat):=by
    have h4:s.data.toList[n.toNat]? = some (s.data.toList.getD n.toNat 0):=by rw [List.getD,List.getElem?_eq_getElem h3]; rfl
    generalize s.data.toList.getD n.toNat 0=b at h4
    simp only [zAV,hu]
    rw [if_pos hn.1,h4]
   rw [this]; exact .leaf _
  ·exact .leaf _
 ·exact .leaf _

def zHZ (σ:zA6) (k:Option Nat) (sz:Nat) (y:AV) (f:List AV->zHJ):zHJ :=
 match y with
 | .rslice id off len=>zHK h σ id fun ob=>match ob with
  | .cells cs e s g=>if s=sz/\k.getD 1=sz then .req ((off+len)*sz<=cs.length) (f (zAH k ((cs.drop (off*sz)).take (len*sz)) len)) else .leaf .fail
  | _ => .leaf .fail
 | .view id off len=>zHK h σ id fun ob=>match ob with
  | .cells cs e s g=>if s=sz/\k.getD 1=sz then .req ((off+len)*sz<=cs.length) (f (zAH k ((cs.drop (off*sz)).take (len*sz)) len)) else .leaf .fail
  | _ => .leaf .fail
 | y=>match zB7 σ k sz y with
  | some ys=>f ys
  | none => .leaf .fail

theorem zI0 {σ:zA6} {k:Option Nat} {sz:Nat} {y:AV} {f:List AV->zHJ} {r:Res} (hf:∀ ys,zB7 σ k sz y=some ys->(f ys).Is r) (hn:zB7 σ k sz y=none->r = .fail):(zHZ h σ k sz y f).Is r:=by
 unfold zHZ
 split
 ·rename_i id off len
  refine zHL ?_
  split
  ·rename_i cs e s g ho
   split
   ·rename_i hc
    refine .req fun hl=>hf _ ?_
    simp only [zB7,ho]
    rw [if_pos ⟨hc.1,hc.2,hl⟩]
   ·rename_i hc
    rw [hn (by simp only [zB7,ho]; rw [if_neg fun h=>hc ⟨h.1,h.2.1⟩])]
    exact .leaf _
  ·rename_i hne
   have:zB7 σ k sz (.rslice id off len)=none:=by
    simp only [zB7]
    try (split <;> first | rfl | (rename_i h; exact absurd h (hne _ _ _ _)))
   rw [hn this]; exact .leaf _
 ·rename_i id off len
  refine zHL ?_
  split
  ·rename_i cs e s g ho
   split
   ·rename_i hc
    refine .req fun hl=>hf _ ?_
    simp only [zB7,ho]
    rw [if_pos ⟨hc.1,hc.2,hl⟩]
   ·rename_i hc
    rw [hn (by simp only [zB7,ho]; rw [if_neg fun h=>hc ⟨h.1,h.2.1⟩])]
    exact .leaf _
  ·rename_i hne
   have:zB7 σ k sz (.view id off len)=none:=by
    simp only [zB7]
    try (split <;> first | rfl | (rename_i h; exact absurd h (hne _ _ _ _)))
   rw [hn this]; exact .leaf _
 ·split
  ·rename_i ys hy; exact hf _ hy
  ·rename_i hy; rw [hn hy]; exact .leaf _

def zI1 (σ:zA6) (ann:Ann) (e sz by':Nat) (x:AV) (ys:List AV):zHJ :=
 match x with
 | .nilslice => .req (ys.length*by'<=140737488355328/\ys.length<=4611686018427387904) (match annR ann with
  | .ref => .leaf (.ok (.rslice σ.next 0 ys.length) (σ.new (.cells (zA0 ys) e sz true)))
  | _ => .leaf (.ok (.slice sz ys (.tok σ.next)) (σ.new (.tok ys.length e sz))))
 | .slice s xs .full=>if s=sz then .req ((xs.length+ys.length)*by'<=140737488355328/\xs.length+ys.length<=4611686018427387904) (match annR ann with
  | .ref => .leaf (.ok (.rslice σ.next 0 (xs++ys).length) (σ.new (.cells (zA0 (xs++ys)) e sz true)))
  | _ => .leaf (.ok (.slice sz (xs++ys) (.tok σ.next)) (σ.new (.tok (xs.length+ys.length) e sz)))) else .leaf .fail
 | .slice s xs (.tok id)=>zHK h σ id fun ob=>match ob with
  | .tok n e' s'=>if s=sz/\e'=e/\s'=sz then .req (((xs.length+ys.length)*by'<=140737488355328/\xs.length+ys.length<=4611686018427387904)/\n=xs.length)
    (.leaf (.ok (.slice sz (xs++ys) (.tok σ.next)) ((σ.set id .dead).new (.tok (xs.length+ys.length) e sz)))) else .leaf .fail
  | _ => .leaf .fail
 | .rslice id off len=>match ann with
  | .off=>zHK h σ id fun ob=>match ob with
   | .cells cs e' s' g=>if e'=e/\s'=sz then .req (((len+ys.length)*by'<=140737488355328/\len+ys.length<=4611686018427387904)/\(off+len)*sz<=cs.length)
     (.leaf (.both (.rslice σ.next off (len+ys.length)) ((σ.set id .dead).new (.cells (cs.take ((off+len)*sz)++zA0 ys) e sz true))
      (.rslice σ.next 0 (len+ys.length)) ((σ.set id .dead).new (.cells ((cs.drop (off*sz)).take (len*sz)++zA0 ys) e sz true)))) else .leaf .fail
   | _ => .leaf .fail
  | _=>zHK h σ id fun ob=>match ob with
   | .cells cs e' s' g=>if e'=e/\s'=sz then .req (off=0/\((len+ys.length)*by'<=140737488355328/\len+ys.length<=4611686018427387904)/\len*sz<=cs.length)
     (.leaf (.ok (.rslice σ.next 0 (len+ys.length)) ((σ.set id .dead).new (.cells (cs.take (len*sz)++zA0 ys) e sz true)))) else .leaf .fail
   | _ => .leaf .fail
 | _ => .leaf .fail

def zI2 (σ:zA6) (t t':Nat) (x:AV) (l:Int):zHJ :=
 match elT P t,P.underlying t',x with
 | some e,some (.int _),.nilslice =>
  match szT P e,byT P e,zAB P e with
  | some sz,some by',some z =>
   if (av z).cells.length=sz/\(av z).isUndef=false/\(av z).cells.all AV.one=true/\0<sz then
    .req (0<l/\(by':Int)*l<=140737488355328/\l<=4611686018427387904) (.leaf (.ok (.rslice σ.next 0 l.toNat) (σ.new (.cells (List.replicate l.toNat (av z).cells).flatten e sz true))))
   else .leaf .fail
  | _,_,_ => .leaf .fail
 | _,_,_ => .leaf .fail
theorem zI3 {σ:zA6} {t t':Nat} {x:AV} {l:Int}:(zI2 P σ t t' x l).Is (zB9 P σ t t' x l):=by
 unfold zI2 zB9
 split
 ·rename_i e k he hu
  simp only [he,hu]
  split
  ·rename_i sz by' z h1 h2 h3
   simp only [h1,h2,h3]
   split
   ·rename_i hc
    refine .req fun h => ?_
    rw [if_pos ⟨h.1,h.2.1,h.2.2,hc.1,hc.2.1,hc.2.2.1,hc.2.2.2⟩]; exact .leaf _
   ·rename_i hc
    rw [if_neg fun h=>hc ⟨h.2.2.2.1,h.2.2.2.2.1,h.2.2.2.2.2.1,h.2.2.2.2.2.2⟩]; exact .leaf _
  ·rename_i hne
   split
   ·rename_i h1 h2 h3; exact absurd h3 (hne _ _ _ h1 h2)
   ·exact .leaf _
 ·rename_i hne
  split
  ·rename_i h1 h2; exact absurd rfl (hne _ _ h1 h2)
  ·exact .leaf _

def zI4 (σ:zA6) (ann:Ann) (t t':Nat) (x y:AV):zHJ :=
 match y with
 | .int k l=>zI2 P σ t t' x l
 | y=>match elT P t with
  | some e =>
   match szT P e,byT P e,zAB P e,zAC P e with
   | some sz,some by',some z,some k =>
    if t'=t then
     zHZ h σ k sz y fun ys => .br ys.isEmpty
      (match x with
       | .nilslice | .slice _ _ _ | .rslice _ _ _ => .leaf (.ok x σ)
       | _ => .leaf .fail)
      (if 0<sz/\z.cells.size=sz then zI1 h σ ann e sz by' x ys else .leaf .fail)
    else .leaf .fail
   | _,_,_,_ => .leaf .fail
  | none => .leaf .fail

theorem zI5 {σ:zA6} {ann:Ann} {t t':Nat} {x y:AV}:(zI4 P h σ ann t t' x y).Is (zBA P σ ann t t' x y):=by
 unfold zI4
 split
 ·exact zI3 P
 rename_i y' hny
 have:zBA P σ ann t t' x y=zB8 P σ ann t t' x y:=by
  unfold zBA
  split
  ·exact absurd rfl (hny _ _)
  ·rfl
 rw [this]
 unfold zB8
 split
 case h_2 he=>simp only [he]; exact .leaf _
 rename_i e he
 simp only [he]
 split
 case h_2 =>
  rename_i hn
  split
  ·rename_i h1 h2 h3 h4; exact absurd h4 (hn _ _ _ _ h1 h2 h3)
  ·exact .leaf _
 rename_i sz by' z k hsz hby hz hk
 simp only [hsz,hby,hz,hk]
 split
 case isFalse h =>
  split
  ·exact .leaf _
  ·exact .leaf _
 case isTrue h =>
  subst h
  refine zI0 h (fun ys hy => ?_) (fun hy=>by rw [hy])
  simp only [hy]
  simp only [ne_eq,not_true_eq_false,if_false]
  refine .br (fun hb => ?_) (fun hb => ?_)
  ·rw [if_pos hb]
   cases x <;> exact .leaf _
  ·simp only [hb,Bool.false_eq_true,if_false]
   split
   case isFalse=>exact .leaf _
   rename_i hpos
   unfold zI1
   cases x with
   | nilslice =>
    dsimp only
    refine .req fun hc => ?_
    rw [if_pos hc]
    cases ann <;> exact .leaf _
   | slice s xs m =>
    cases m with
    | full =>
     dsimp only
     split
     ·rename_i hs
      refine .req fun hc => ?_
      rw [if_pos ⟨hs,hc⟩]
      cases ann <;> exact .leaf _
     ·rename_i hs
      rw [if_neg fun h=>hs h.1]; exact .leaf _
    | tok id =>
     dsimp only
     refine zHL ?_
     split
     ·rename_i n e' s' ho
      split
      ·rename_i hs
       refine .req fun hc => ?_
       rw [if_pos ⟨hs.1,hc.1⟩]; simp only [ho]; rw [if_pos ⟨hc.2,hs.2⟩]; exact .leaf _
      ·rename_i hs
       split
       ·rename_i h1
        simp only [ho]; rw [if_neg fun h=>hs ⟨h1.1,h.2⟩]; exact .leaf _
       ·exact .leaf _
     ·rename_i hne
      split
      ·split
       ·rename_i h; exact absurd h (hne _ _ _)
       ·exact .leaf _
      ·exact .leaf _
    | any=>exact .leaf _
    | nn=>exact .leaf _
   | rslice id off len =>
    cases ann with
    | off =>
     dsimp only
     refine zHL ?_
     split
     ·rename_i cs e' s' g ho
      split
      ·rename_i hs
       refine .req fun hc => ?_
       rw [if_pos hc.1]; simp only [ho]; rw [if_pos ⟨hs.1,hs.2,hc.2⟩]; exact .leaf _
      ·rename_i hs
       split
       ·simp only [ho]; rw [if_neg fun h=>hs ⟨h.1,h.2.1⟩]; exact .leaf _
       ·exact .leaf _
     ·rename_i hne
      split
      ·split
       ·rename_i h; exact absurd h (hne _ _ _ _)
       ·exact .leaf _
      ·exact .leaf _
    | none =>
     dsimp only
     refine zHL ?_
     split
     ·rename_i cs e' s' g ho
      split
      ·rename_i hs
       refine .req fun hc => ?_
       rw [if_pos ⟨hc.1,hc.2.1⟩]; simp only [ho]; rw [if_pos ⟨hs.1,hs.2,hc.2.2⟩]; exact .leaf _
      ·rename_i hs
       split
       ·simp only [ho]; rw [if_neg fun h=>hs ⟨h.1,h.2.1⟩]; exact .leaf _
       ·exact .leaf _
     ·rename_i hne
      split
      ·split
       ·rename_i h; exact absurd h (hne _ _ _ _)
       ·exact .leaf _
      ·exact .leaf _
    | ref =>
     dsimp only
     refine zHL ?_
     split
     ·rename_i cs e' s' g ho
      split
      ·rename_i hs
       refine .req fun hc => ?_
       rw [if_pos ⟨hc.1,hc.2.1⟩]; simp only [ho]; rw [if_pos ⟨hs.1,hs.2,hc.2.2⟩]; exact .leaf _
      ·rename_i hs
       split
       ·simp only [ho]; rw [if_neg fun h=>hs ⟨h.1,h.2.1⟩]; exact .leaf _
       ·exact .leaf _
     ·rename_i hne
      split
      ·split
       ·rename_i h; exact absurd h (hne _ _ _ _)
       ·exact .leaf _
      ·exact .leaf _
    | frz =>
     dsimp only
     refine zHL ?_
     split
     ·rename_i cs e' s' g ho
      split
      ·rename_i hs
       refine .req fun hc => ?_
       rw [if_pos ⟨hc.1,hc.2.1⟩]; simp only [ho]; rw [if_pos ⟨hs.1,hs.2,hc.2.2⟩]; exact .leaf _
      ·rename_i hs
       split
       ·simp only [ho]; rw [if_neg fun h=>hs ⟨h.1,h.2.1⟩]; exact .leaf _
       ·exact .leaf _
     ·rename_i hne
      split
      ·split
       ·rename_i h; exact absurd h (hne _ _ _ _)
       ·exact .leaf _
      ·exact .leaf _
   | _=>exact .leaf _

def cmake (σ:zA6) (t:Nat) (l c:AV):zHJ :=
 match elT P t,l,c with
 | some e,.int _ l,.int _ c =>
  match szT P e,byT P e,zAB P e with
  | some sz,some by',some z =>
   if (av z).cells.length=sz/\(av z).isUndef=false/\(av z).cells.all AV.one=true/\0<sz then
    .req (0<=l/\l<=c/\(by':Int)*c<=140737488355328/\c<=4611686018427387904) (.leaf (.ok (.rslice σ.next 0 l.toNat) (σ.new (.cells (List.replicate c.toNat (av z).cells).flatten e sz false))))
   else .leaf .fail
  | _,_,_ => .leaf .fail
 | _,_,_ => .leaf .fail

theorem cmake_is {σ:zA6} {t:Nat} {l c:AV}:(cmake P σ t l c).Is (zBC P σ t l c):=by
 unfold cmake
 split
 ·rename_i e kl l kc c he
  split
  ·rename_i sz by' z h1 h2 h3
   split
   ·rename_i hc
    refine .req fun h => ?_
    simp only [zBC,he,h1,h2,h3]
    rw [if_pos ⟨h.1,h.2.1,h.2.2.1,h.2.2.2,hc.1,hc.2.1,hc.2.2.1,hc.2.2.2⟩]; exact .leaf _
   ·rename_i hc
    simp only [zBC,he,h1,h2,h3]
    rw [if_neg fun h=>hc ⟨h.2.2.2.2.1,h.2.2.2.2.2.1,h.2.2.2.2.2.2.1,h.2.2.2.2.2.2.2⟩]; exact .leaf _
  ·rename_i hne
   simp only [zBC,he]
   exact .leaf _
 ·rename_i hne
  unfold zBC
  split
  ·rename_i h1; exact absurd rfl (hne _ _ _ _ _ h1 rfl)
  ·exact .leaf _

def zI6 (σ:zA6) (k:Option Nat) (x:AV):zHJ :=
 match x with
 | .rslice id 0 len=>zHK h σ id fun ob=>match ob with
  | .cells cs e sz g=>if k.getD 1=sz/\0<sz then .req (cs.length=len*sz) (.leaf (.ok (.slice sz (zAH k cs len) (.tok id)) (σ.set id (.tok len e sz)))) else .leaf .fail
  | _ => .leaf .fail
 | x => .leaf (zBB σ k x)

theorem zI7 {σ:zA6} {k:Option Nat} {x:AV}:(zI6 h σ k x).Is (zBB σ k x):=by
 unfold zI6
 split
 ·rename_i id len
  refine zHL ?_
  split
  ·rename_i cs e sz g ho
   simp only [zBB,ho]
   split
   ·rename_i hc
    refine .req fun h => ?_
    rw [if_pos ⟨hc.1,hc.2,h⟩]; exact .leaf _
   ·rename_i hc
    rw [if_neg fun h=>hc ⟨h.1,h.2.1⟩]; exact .leaf _
  ·rename_i hne
   have:zBB σ k (.rslice id 0 len) = .fail:=by
    simp only [zBB]
    try (split <;> first | rfl | (rename_i h; exact absurd h (hne _ _ _ _)))
   rw [this]; exact .leaf _
 ·exact .leaf _

def cnext (σ:zA6) (x:AV) (isS:Bool):zHJ :=
 match x with
 | .ptr id 0=>match σ.objs id,isS with
  | .siter s pos,true => .br (decide (pos<s.size))
    (.leaf (.ok (.tuple [.bool true,.int .i64 pos,.int .i32 (Utf8.decode s pos).1]) (σ.set id (.siter s (pos+(Utf8.decode s pos).2)))))
    (.leaf (.ok (.tuple [.bool false]) σ))
  | _,_ => .leaf .fail
 | _ => .leaf .fail

def zI8 (t:Nat) (es:List (AV×AV)) (key:AV) (ok:Bool):Option AV :=
 match zAY P t with
 | some (k,e) =>
  if zAX P k key=true then
   match zAW P k key es 0 with
   | some (some (_,v))=>some (if ok then .tuple [v,.bool true] else v)
   | some none=>match zAB P e with
    | some z=>some (if ok then .tuple [av z,.bool false] else av z)
    | none=>none
   | none=>none
  else none
 | none=>none
def mset (t:Nat) (es:List (AV×AV)) (key v:AV):Option (List (AV×AV)) :=
 match zAY P t with
 | some (k,_) =>
  if zAX P k key=true then
   match zAW P k key es 0 with
   | some r=>some (zB5 es key v r)
   | none=>none
  else none
 | none=>none
def zI9 (t:Nat) (es:List (AV×AV)) (key:AV) (ok:Bool) (v:AV):Prop:=zI8 P t es key ok=some v
def MSet (t:Nat) (es:List (AV×AV)) (key v:AV) (es':List (AV×AV)):Prop:=mset P t es key v=some es'
def Has (f:Nat):Prop:=zBG P f=true
def zIA (t:Nat) (es:List (AV×AV)) (key:AV) (ok:Bool) (v:AV):Prop:=zB3 P t es key ok=some v

def clook (σ:zA6) (t:Nat) (x key:AV) (ok:Bool):zHJ :=
 match h,x with
 | some o,.map id=>zHK (some o) σ id fun ob=>match ob with
  | .map es => .ex AV fun v => .req (zI9 P t es key ok v) (.leaf (.ok v σ))
  | .cmap es => .ex AV fun v => .req (zIA P t es key ok v) (.leaf (.ok v σ))
  | _ => .leaf (.of σ (zB4 P σ t (.map id) key ok))
 | _,x => .leaf (.of σ (zB4 P σ t x key ok))

theorem clook_is {σ:zA6} {t:Nat} {x key:AV} {ok:Bool}:(clook P h σ t x key ok).Is (.of σ (zB4 P σ t x key ok)):=by
 unfold clook
 split
 ·rename_i o id
  refine zHL ?_
  split
  ·rename_i es ho
   refine .ex fun v => .req fun hv => ?_
   have e:zB4 P σ t (.map id) key ok=some v:=by
    unfold zI9 zI8 at hv
    unfold zB4 zB1
    simp only [ho]
    unfold zB0 zAZ
    simp only [ho]
    exact hv
   rw [e]; exact .leaf _
  ·rename_i es ho
   refine .ex fun v => .req fun hv => ?_
   have e:zB4 P σ t (.map id) key ok=some v:=by
    unfold zIA at hv
    unfold zB4 zB1
    simp only [ho]
    exact hv
   rw [e]; exact .leaf _
  ·exact .leaf _
 ·exact .leaf _

def cmset (σ:zA6) (t:Nat) (x key v:AV):zHJ :=
 match h,x with
 | some o,.map id=>zHK (some o) σ id fun ob=>match ob with
  | .map es => .ex (List (AV×AV)) fun es' => .req (MSet P t es key v es') (.leaf (.ok .undef (σ.set id (.map es'))))
  | _ => .leaf (zB6 P σ t (.map id) key v)
 | _,x => .leaf (zB6 P σ t x key v)

theorem cmset_is {σ:zA6} {t:Nat} {x key v:AV}:(cmset P h σ t x key v).Is (zB6 P σ t x key v):=by
 unfold cmset
 split
 ·rename_i o id
  refine zHL ?_
  split
  ·rename_i es ho
   refine .ex fun es' => .req fun hv => ?_
   have e:zB6 P σ t (.map id) key v = .ok .undef (σ.set id (.map es')):=by
    unfold MSet mset at hv
    unfold zB6
    split at hv
    ·rename_i k e hm
     simp only [hm,ho]
     split at hv
     ·rename_i hk
      rw [if_pos hk]
      split at hv
      ·rename_i r hr; simp only [hr]; cases hv; rfl
      ·cases hv
     ·cases hv
    ·cases hv
   rw [e]; exact .leaf _
  ·exact .leaf _
 ·exact .leaf _

def cop (ann:Ann) (o:Op) (ρ:Operand->AV) (σ:zA6):zHJ :=
 match o with
 | .load t x=>cload P h σ t (ρ x)
 | .store t x v=>zHO P h σ t (ρ x) (ρ v)
 | .binOp op t x y _=>cbin P σ op t (zAK x || zAK y) (ρ x) (ρ y)
 | .makeSlice t l c=>cmake P σ t (ρ l) (ρ c)
 | .slice t x lo hi mx=>zHU P h σ t (ρ x) (lo.map ρ) (hi.map ρ) (mx.map ρ)
 | .indexAddr t x i=>zHM P h σ t (ρ x) (ρ i)
 | .index t x i=>zHX P σ t (ρ x) (ρ i)
 | .next x isS=>cnext σ (ρ x) isS
 | .lookup t x k ok=>clook P h σ t (ρ x) (ρ k) ok
 | .mapUpdate t m k x=>cmset P h σ t (ρ m) (ρ k) (ρ x)
 | .call c=>match c.callee with
  | .builtin .append=>match c.argTypes.toList,c.args.toList.map ρ with
   | [t,t'],[x,y]=>zI4 P h σ ann t t' x y
   | _,_ => .leaf .fail
  | .value f=>match ρ f with
   | .func (.func f) first captured => .req (Has P f) (.leaf (.call (.fn f) (first++c.args.toList.map ρ++captured)))
   | _ => .leaf (aop P ann (.call c) ρ σ)
  | _ => .leaf (aop P ann (.call c) ρ σ)
 | o => .leaf (aop P ann o ρ σ)

theorem cop_is {ann:Ann} {o:Op} {ρ:Operand->AV} {σ:zA6}:(cop P h ann o ρ σ).Is (aop P ann o ρ σ):=by
 unfold cop
 split
 ·exact cload_is P h
 ·exact zHP P h
 ·exact cbin_is P
 ·exact cmake_is P
 ·exact zHV P h
 ·exact zHN P h
 ·exact zHY P
 ·rename_i x isS
  simp only [aop]
  generalize ρ x=y
  unfold cnext
  split
  ·rename_i id
   split
   ·rename_i s pos ho
    simp only [ho]
    refine .br (fun hb => ?_) (fun hb => ?_)
    ·have:pos<s.size:=by simpa using hb
     simp only [if_pos this]; exact .leaf _
    ·have:¬ pos<s.size:=by simpa using hb
     simp only [if_neg this]; exact .leaf _
   ·rename_i hne
    split
    ·rename_i h0
     cases h0
     split
     ·rename_i h1; exact absurd rfl (hne _ _ h1)
     ·exact .leaf _
    ·exact .leaf _
  ·rename_i hne
   split
   ·exact absurd rfl (hne _)
   ·exact .leaf _
 ·exact clook_is P h
 ·exact cmset_is P h
 ·rename_i c
  split
  ·rename_i hc
   simp only [aop,zBI,hc]
   split
   ·rename_i t t' x y h1 h2
    simp only [h1,h2]
    exact zI5 P h
   ·rename_i hne
    split
    ·rename_i h1 h2; exact absurd h2 (hne _ _ _ _ h1)
    ·exact .leaf _
  ·rename_i f hc
   split
   ·rename_i k first captured hf
    refine .req fun hb => ?_
    have hb:zBG P k=true:=hb
    simp only [aop,zBI,hc,hf,if_pos hb]
    exact .leaf _
   ·exact .leaf _
  ·exact .leaf _
 ·exact .leaf _

def copF (sym:Bool) (ann:Ann) (o:Oper) (ρ:Operand->AV) (σ:zA6):zHJ :=
 match sym with
 | false => .leaf (zDL P ann o ρ σ)
 | true=>(cop P h ann o.op ρ σ).bind fun r=>match r with
  | .ok v σ'=>(match ann with
   | .frz=>match elT P o.type with
    | some e=>match zAC P e with
     | some k=>zI6 h σ' k v
     | none => .leaf .fail
    | none => .leaf .fail
   | _ => .leaf (.ok v σ'))
  | r => .leaf r

theorem copF_is {sym:Bool} {ann:Ann} {o:Oper} {ρ:Operand->AV} {σ:zA6}:(copF P h sym ann o ρ σ).Is (zDL P ann o ρ σ):=by
 unfold copF
 split
 ·exact .leaf _
 ·refine .bind (cop_is P h) ?_
  unfold zDL
  cases hr:aop P ann o.op ρ σ with
  | ok v σ' =>
   dsimp only
   cases ann with
   | none=>exact .leaf _
   | ref=>exact .leaf _
   | off=>exact .leaf _
   | frz =>
    simp only [if_true]
    cases he:elT P o.type with
    | none=>exact .leaf _
    | some e =>
     dsimp only
     cases hk:zAC P e with
     | none=>exact .leaf _
     | some k=>exact zI7 h
  | call f args=>exact .leaf _
  | fail=>exact .leaf _
  | both v1 σ1 v2 σ2=>exact .leaf _

end
end Go.V
namespace Go.V
open Go.RowKit

structure zIB:Type 1 where
 sym:Bool
 cast:Option ((α:Type)×(α->AV))
 obj:OH
 nil:Bool

def zIB.no:zIB:=⟨false,none,none,false⟩
def zIB.s:zIB:=⟨true,none,none,false⟩
def zIB.as {α:Type} (f:α->AV):zIB:=⟨true,some ⟨α,f⟩,none,false⟩
def zIB.of {α:Type} (f:α->zA5):zIB:=⟨true,none,some ⟨α,f⟩,false⟩
def zIB.ofAs {α β:Type} (f:α->zA5) (v:β->AV):zIB:=⟨true,some ⟨β,v⟩,some ⟨α,f⟩,false⟩
def zIB.ofNil {α β:Type} (f:α->zA5) (v:β->AV):zIB:=⟨true,some ⟨β,v⟩,some ⟨α,f⟩,true⟩

def zIC (c:Option ((α:Type)×(α->AV))) (nil:Bool) (v:AV) (k:AV->Prop):Prop :=
 match c with
 | none=>k v
 | some ⟨α,f⟩=>match nil with
  | false=>∃ x:α,v=f x/\k (f x)
  | true=>(v = .nilslice/\k .nilslice)\/∃ x:α,v=f x/\k (f x)

theorem zID {c:Option ((α:Type)×(α->AV))} {nil:Bool} {v:AV} {k:AV->Prop} (h:zIC c nil v k):k v:=by
 unfold zIC at h
 split at h
 ·exact h
 ·split at h
  ·obtain ⟨x,rfl,h⟩:=h; exact h
  ·rcases h with ⟨rfl,h⟩ | ⟨x,rfl,h⟩ <;> exact h

abbrev zIE:=Nat->Nat->zIB

section
variable (E:Env) (H:zDY)
def zIF (hn:zIB) (ann:Ann) (o:Oper) (K:zE3) (a:zDN) (σ:zA6):Prop :=
 (copF E.P hn.obj hn.sym ann o (zAA E.G a.low) σ).post fun r=>match r with
  | .ok v σ'=>zIC hn.cast hn.nil v fun v=>K (a.put o.dst (.v v)) σ'
  | .call f args=>H f args σ fun v σ'=>zIC hn.cast hn.nil v fun v=>K (a.put o.dst (.v v)) σ'
  | .fail=>False
  | .both v1 σ1 v2 σ2=>K (a.put o.dst (.v v1)) σ1/\K (a.put o.dst (.v v2)) σ2

def newC (ann:Ann) (o:Oper) (cs:List AV) (K:zE3) (gen:Prop) (a:zDN) (σ:zA6):Prop :=
 match ann,o.dst with
 | .none,some d=>match cs.all AV.one with
  | true=>K (a.newL d cs) σ
  | false=>False
 | _,_=>gen

def pickL (P:Program) (t:Nat) (cs:List AV) (off:Nat) (k:AV->Prop):Nat->Nat->Prop
 | _,0=>False
 | j,m+1=>bcase (decide (off=j)) (match zAE P t cs j with
  | some v=>k v
  | none=>False) (pickL P t cs off k (j+1) m)

theorem zIG {P:Program} {t:Nat} {cs:List AV} {off:Nat} {k:AV->Prop}:∀ (m j:Nat),pickL P t cs off k j m->∃ v,zAE P t cs off=some v/\k v
 | 0,j,h=>h.elim
 | m+1,j,h=>by
  unfold pickL at h
  cases hb:decide (off=j) with
  | true =>
   rw [hb] at h
   have e:off=j:=by simpa using hb
   subst e
   simp only [bcase] at h
   split at h
   ·rename_i v hv; exact ⟨v,hv,h⟩
   ·exact h.elim
  | false=>rw [hb] at h; exact zIG m (j+1) h

def goC (hn:zIB) (ann:Ann) (o:Oper) (K:zE3) (a:zDN) (σ:zA6):Prop :=
 match o.op with
 | .alloc e=>match zAB E.P e with
  | some z=>newC ann o (av z).cells K (zIF E H hn ann o K a σ) a σ
  | none=>False
 | .box e x=>match zDO E.G a x with
  | .v v=>newC ann o v.cells K (zIF E H hn ann o K a σ) a σ
  | .l _ _=>False
 | .load t x=>match zDO E.G a x with
  | .l k off=>match hn.sym with
   | true=>pickL E.P t (a.l k) off (fun v=>zIC hn.cast hn.nil v fun v=>K (a.put o.dst (.v v)) σ) 0 (a.l k).length
   | false=>match zAE E.P t (a.l k) off with
    | some v=>zIC hn.cast hn.nil v fun v=>K (a.put o.dst (.v v)) σ
    | none=>False
  | .v _=>zIF E H hn ann o K a σ
 | .store t x v=>match zDO E.G a x with
  | .l k off =>
   match !(zDO E.G a v).low.isUndef&&(decide (szT E.P t=some (zDO E.G a v).low.cells.length)&&((zDO E.G a v).low.cells.all AV.one&&(Nat.ble (off+(zDO E.G a v).low.cells.length) (a.l k).length&&o.dst.isNone))) with
   | true=>K (a.setL k (zAF (a.l k) off (zDO E.G a v).low.cells)) σ
   | false=>False
  | .v _=>zIF E H hn ann o K a σ
 | .fieldAddr s x f=>match zDO E.G a x with
  | .l k off=>match fldT E.P s f with
   | some (_,p,m)=>match Nat.beq m 0 with
    | true=>False
    | false=>K (a.put o.dst (.l k (off+p))) σ
   | none=>False
  | .v _=>zIF E H hn ann o K a σ
 | .indexAddr t x i=>match zDO E.G a x with
  | .l k off=>match zDO E.G a i,arrT E.P t with
   | .v (.int _ j),some (len,e)=>match szT E.P e with
    | some sz=>match hn.sym with
     | true=>0<=j/\j<len/\K (a.put o.dst (.l k (off+j.toNat*sz))) σ
     | false=>match decide (0<=j)&&decide (j<len) with
      | true=>K (a.put o.dst (.l k (off+j.toNat*sz))) σ
      | false=>False
    | none=>False
   | _,_=>False
  | .v _=>zIF E H hn ann o K a σ
 | .nilCheck x=>match zDO E.G a x with
  | .l k off=>K (a.put o.dst (.l k off)) σ
  | .v _=>zIF E H hn ann o K a σ
 | .move x=>match zDO E.G a x with
  | .l k off=>K (a.put o.dst (.l k off)) σ
  | .v _=>zIF E H hn ann o K a σ
 | .assign x=>match zDO E.G a x with
  | .l k off=>K (a.put o.dst (.l k off)) σ
  | .v _=>zIF E H hn ann o K a σ
 | _=>zIF E H hn ann o K a σ

def zIH (hn:zIB) (ann:Ann) (ops:Array Oper) (o:Oper) (K:zE3) (a:zDN) (σ:zA6):Prop :=
 match o.guard with
 | none=>goC E H hn ann o K a σ
 | some (j,want)=>match (ops[j]?).bind (·.dst) with
  | none=>K (a.put o.dst (.v (.tuple []))) σ
  | some d=>match (a.t d).low with
   | .bool b=>bcase b
     (match want with | true=>goC E H hn ann o K (a.setB d true) σ | false=>K ((a.setB d true).put o.dst (.v (.tuple []))) σ)
     (match want with | true=>K ((a.setB d false).put o.dst (.v (.tuple []))) σ | false=>goC E H hn ann o K (a.setB d false) σ)
   | .undef=>False
   | _=>K (a.put o.dst (.v (.tuple []))) σ

def opsC (an:zDM) (hs:zIE) (id:Nat) (ops:Array Oper):List Oper->Nat->zE3->zDN->zA6->Prop
 | [],_,K,a,σ=>K a σ
 | o :: l,i,K,a,σ=>zIH E H (hs id i) (an.ann id i) ops o (fun a σ=>opsC an hs id ops l (i+1) K a σ) a σ

def runC (an:zDM) (hs:zIE) (id:Nat) (ops:Array Oper):List (Oper×Nat)->zE3->zDN->zA6->Prop
 | [],K,a,σ=>K a σ
 | (o,i) :: r,K,a,σ=>match zG8 (an.ann id i)&&zG1 o.op with
  | true=>zIH E H (hs id i) .none ops o (fun a' σ'=>runC an hs id ops r K a' σ) a σ
  | false=>False

def zII (dst:Option Tmp) (a' a:zDN):Prop :=
 match dst with
 | some d=>a'.t d=a.t d
 | none=>True

def zIJ (an:zDM) (hs:zIE) (id:Nat) (ops:Array Oper):List (Oper×Nat)->zDN->zA6->Prop->Prop
 | [],a,σ,R=>R
 | (o,i) :: r,a,σ,R=>match zG8 (an.ann id i)&&zG1 o.op with
  | true=>zIH E H (hs id i) .none ops o (fun a' σ'=>zII o.dst a' a) a σ/\zIJ an hs id ops r a σ R
  | false=>False

end
def zIK (ops:Array Oper) (x y:Oper×Nat):Bool :=
 match y.1.dst with
 | some d=>(x.1.looksAt ops).contains d || (match x.1.dst with
  | some e=>Nat.beq e d
  | none=>false)
 | none=>false
def zIL (ops:Array Oper) (x:Oper×Nat):Bool :=
 match x.1.dst with
 | some d=>(x.1.looksAt ops).contains d
 | none=>false
def zIM (ops:Array Oper):List (Oper×Nat)->Bool
 | []=>true
 | x :: r => !zIL ops x&&(r.all (fun y => !zIK ops x y)&&zIM ops r)

section
variable (E:Env) (H:zDY)
def allC {α:Type} (p:α->Prop):List α->Prop
 | []=>True
 | [x]=>p x
 | x :: r=>p x/\allC p r

def zIN (an:zDM) (hs:zIE) (id:Nat) (ops:Array Oper) (anc eff:List Nat):Nat->List Nat->zE3->zDN->zA6->Prop
 | 0,_,_,_,_=>False
 | f+1,done,K,a,σ=>match zIM ops (ops.toList.zipIdx.filter (zFB anc eff done))&&(ops.toList.zipIdx.filter (zFB anc eff done)).all (fun x=>zET x.1) with
  | true=>runC E H an hs id ops (ops.toList.zipIdx.filter (zFB anc eff done)) (fun a' σ' =>
   zIJ E H an hs id ops (ops.toList.zipIdx.filter (fun x=>zFC anc eff done x && !zFB anc eff done x)) a' σ'
   (match eff.all (done.contains ·) with
    | true=>K a' σ'
    | false=>allC (fun (oi:Oper×Nat)=>zIH E H (hs id oi.2) (an.ann id oi.2) ops oi.1 (fun a'' σ''=>zIN an hs id ops anc eff f (oi.2 :: done) K a'' σ'') a' σ') (ops.toList.zipIdx.filter (zFD anc eff done)))) a σ
  | false=>False

def wpC (L:zFV) (an:zDM) (hs:zIE):Code->zDW->zDN->zA6->Prop
 | .skip,Q,a,σ=>Q .normal a σ
 | .region id ops false,Q,a,σ=>opsC E H an hs id ops ops.toList 0 (Q .normal) a σ
 | .region id ops true,Q,a,σ=>zIN E H an hs id ops (zFW ops) (an.eff id) ((an.eff id).length+1) [] (Q .normal) a σ
 | .seq x y,Q,a,σ=>wpC L an hs x (fun e a σ=>match e with | .normal=>wpC L an hs y Q a σ | e=>Q e a σ) a σ
 | .cond c x y,Q,a,σ=>match (zDO E.G a c).low with
  | .bool b=>bcase b (wpC L an hs x Q (a.setC c true) σ) (wpC L an hs y Q (a.setC c false) σ)
  | _=>False
 | .block id c,Q,a,σ=>wpC L an hs c (fun e a σ=>match e with | .exit id'=>(match Nat.beq id' id with | true=>Q .normal a σ | false=>Q (.exit id') a σ) | e=>Q e a σ) a σ
 | .loop c,Q,a,σ=>L (.loop c) Q a σ
 | .rangeFunc f ps x y,Q,a,σ=>L (.rangeFunc f ps x y) Q a σ
 | .exit id,Q,a,σ=>Q (.exit id) a σ
 | .ret,Q,a,σ=>Q .ret a σ
 | _,_,_,_=>False
end

def zIO:Code->List Code
 | .seq a b=>zIO a++zIO b
 | .cond _ a b=>zIO a++zIO b
 | .block _ c=>zIO c
 | .loop c=>[.loop c]
 | .rangeFunc f ps x y=>[.rangeFunc f ps x y]
 | _=>[]

def zIP (E:Env) (H:zDY):Prop:=∀ t args σ Q,H t args σ Q->zE0 E t args σ Q


section
variable {E:Env} {H:zDY} {σ:zA6} {a:zDN} {an:zDM} {ann:Ann} {o:Oper} {K:zE3} {ops:Array Oper}
theorem zIQ {P:Program} {ann:Ann} {o:Oper} {ρ:Operand->AV} {σ σ1 σ2:zA6} {v1 v2:AV} (h:zDL P ann o ρ σ = .both v1 σ1 v2 σ2):σ1.next=σ.next+1:=by
 have hof:∀ (x:Option AV),Res.of σ x ≠ .both v1 σ1 v2 σ2:=fun x=>by cases x <;> simp [Res.of]
 have key:aop P ann o.op ρ σ = .both v1 σ1 v2 σ2->σ1.next=σ.next+1:=by
  clear h
  obtain ⟨dst,op,type,pos,after,guard⟩:=o
  intro h
  cases op <;> simp only [aop] at h
  case call c =>
   unfold zBI at h
   cases hc:c.callee with
   | builtin b =>
    rw [hc] at h
    cases b <;> simp only at h <;> try (cases h; done)
    case len=>split at h <;> (try split at h) <;> cases h
    case append =>
     split at h
     ·unfold zBA at h
      split at h
      ·unfold zB9 at h
       repeat' (split at h <;> try (cases h; done))
      unfold zB8 at h
      repeat' (split at h <;> try (first | (cases h; done) | (cases h; rfl)))
     ·cases h
    case max=>split at h <;> (try split at h) <;> cases h
    case cap=>split at h <;> (try split at h) <;> cases h
    case min=>split at h <;> (try split at h) <;> cases h
   | _=>rw [hc] at h; simp only at h; first | (cases h; done) | (repeat' (split at h <;> try (cases h; done)))
  case makeMap t r=>cases r <;> simp only at h <;> cases h
  case range t x=>split at h <;> cases h
  case next x b=>repeat' (split at h <;> try (cases h; done))
  all_goals first | exact (hof _ h).elim | (unfold zAN at h; repeat' (split at h <;> try (cases h; done))) | (unfold zBF at h; repeat' (split at h <;> try (cases h; done))) | (unfold zBC at h; repeat' (split at h <;> try (cases h; done))) | (unfold zB6 at h; repeat' (split at h <;> try (cases h; done))) | (unfold zAO at h; repeat' (split at h <;> try (cases h; done))) | (cases h; done) | (repeat' (split at h <;> try (first | (cases h; done) | (unfold zAO at h; split at h <;> cases h))))
 unfold zDL at h
 split at h
 ·split at h
  ·split at h
   ·split at h
    ·unfold zBB at h
     repeat' (split at h <;> try (cases h; done))
    ·cases h
   ·cases h
  ·cases h
 ·exact key h

theorem genS_det (hp:zET o=true) (hK:∀ a' σ',K a' σ'->σ'=σ) (k:zE4 E H ann o K a σ):∃ v σ',K (a.put o.dst v) σ'/\∀ K':zE3,K' (a.put o.dst v) σ'->zE4 E H ann o K' a σ:=by
 unfold zE4 at k
 split at k
 ·rename_i hr
  exact ⟨_,_,k,fun K' k'=>by unfold zE4; rw [hr]; exact k'⟩
 ·rename_i hr; exact (zEU hp hr).elim
 ·exact k.elim
 ·rename_i hr
  have h1:=zIQ hr
  rw [hK _ _ k.1] at h1
  exact absurd h1 (by omega)

theorem zIR (hp:zET o=true) (hK:∀ a' σ',K a' σ'->σ'=σ) (k:goS E H ann o K a σ):∃ v σ',K (a.put o.dst v) σ'/\∀ K':zE3,K' (a.put o.dst v) σ'->goS E H ann o K' a σ:=by
 have hg:zE4 E H ann o K a σ->∃ v σ',K (a.put o.dst v) σ'/\∀ K':zE3,K' (a.put o.dst v) σ'->zE4 E H ann o K' a σ:=genS_det hp hK
 have lift:(∃ v σ',K (a.put o.dst v) σ'/\∀ K':zE3,K' (a.put o.dst v) σ'->zE4 E H ann o K' a σ)->(∀ K':zE3,zE4 E H ann o K' a σ->goS E H ann o K' a σ)->∃ v σ',K (a.put o.dst v) σ'/\∀ K':zE3,K' (a.put o.dst v) σ'->goS E H ann o K' a σ :=
  fun ⟨v,σ',h1,h2⟩ h3=>⟨v,σ',h1,fun K' k'=>h3 _ (h2 _ k')⟩
 unfold goS at k
 cases ho:o.op with
 | alloc e=>simp [zET,ho] at hp
 | box e x=>simp [zET,ho] at hp
 | store t x v=>simp [zET,ho] at hp
 | load t x =>
  simp only [ho] at k
  split at k
  ·rename_i hz
   split at k
   ·rename_i hw; exact ⟨_,_,k,fun K' k'=>by unfold goS; simp only [ho,hz,hw]; exact k'⟩
   ·exact k.elim
  ·rename_i hz; exact lift (hg k) fun K' k'=>by unfold goS; simp only [ho,hz]; exact k'
 | fieldAddr s x f =>
  simp only [ho] at k
  split at k
  ·rename_i hz
   split at k
   ·rename_i hw
    split at k
    ·exact k.elim
    ·rename_i hm; exact ⟨_,_,k,fun K' k'=>by unfold goS; simp only [ho,hz,hw,hm,if_false]; exact k'⟩
   ·exact k.elim
  ·rename_i hz; exact lift (hg k) fun K' k'=>by unfold goS; simp only [ho,hz]; exact k'
 | indexAddr t x i =>
  simp only [ho] at k
  split at k
  ·rename_i hz
   split at k
   ·rename_i h1 h2
    split at k
    ·rename_i h3; exact ⟨_,_,k.2.2,fun K' k'=>by unfold goS; simp only [ho,hz,h1,h2,h3]; exact ⟨k.1,k.2.1,k'⟩⟩
    ·exact k.elim
   ·exact k.elim
  ·rename_i hz; exact lift (hg k) fun K' k'=>by unfold goS; simp only [ho,hz]; exact k'
 | nilCheck x =>
  simp only [ho] at k
  split at k <;> rename_i hz
  ·exact ⟨_,_,k,fun K' k'=>by unfold goS; simp only [ho,hz]; exact k'⟩
  ·exact lift (hg k) fun K' k'=>by unfold goS; simp only [ho,hz]; exact k'
 | move x =>
  simp only [ho] at k
  split at k <;> rename_i hz
  ·exact ⟨_,_,k,fun K' k'=>by unfold goS; simp only [ho,hz]; exact k'⟩
  ·exact lift (hg k) fun K' k'=>by unfold goS; simp only [ho,hz]; exact k'
 | assign x =>
  simp only [ho] at k
  split at k <;> rename_i hz
  ·exact ⟨_,_,k,fun K' k'=>by unfold goS; simp only [ho,hz]; exact k'⟩
  ·exact lift (hg k) fun K' k'=>by unfold goS; simp only [ho,hz]; exact k'
 | _=>simp only [ho] at k; exact lift (hg k) fun K' k'=>by unfold goS; simp only [ho]; exact k'

theorem zIS (hp:zET o=true) (hK:∀ a' σ',K a' σ'->σ'=σ) (k:zE6 E H ann ops o K a σ):∃ v σ',K (a.put o.dst v) σ'/\∀ K':zE3,K' (a.put o.dst v) σ'->zE6 E H ann ops o K' a σ:=by
 have lift:(∃ v σ',K (a.put o.dst v) σ'/\∀ K':zE3,K' (a.put o.dst v) σ'->goS E H ann o K' a σ)->(∀ K':zE3,goS E H ann o K' a σ->zE6 E H ann ops o K' a σ)->∃ v σ',K (a.put o.dst v) σ'/\∀ K':zE3,K' (a.put o.dst v) σ'->zE6 E H ann ops o K' a σ :=
  fun ⟨v,σ',h1,h2⟩ h3=>⟨v,σ',h1,fun K' k'=>h3 _ (h2 _ k')⟩
 unfold zE6 at k
 split at k
 ·rename_i hg; exact lift (zIR hp hK k) fun K' k'=>by unfold zE6; simp only [hg]; exact k'
 ·rename_i j want hg
  split at k
  ·rename_i hd; exact ⟨_,_,k,fun K' k'=>by unfold zE6; simp only [hg,hd]; exact k'⟩
  ·rename_i d hd
   split at k
   ·rename_i b hb
    cases b
    ·rw [zF2 hb] at k
     simp only [bcase] at k
     split at k
     ·rename_i hw; exact ⟨_,_,k,fun K' k'=>by unfold zE6; simp only [hg,hd,hb,bcase,hw,if_true]; rw [zF2 hb]; exact k'⟩
     ·rename_i hw; exact lift (zIR hp hK k) fun K' k'=>by unfold zE6; simp only [hg,hd,hb,bcase,hw,if_false]; rw [zF2 hb]; exact k'
    ·rw [zF2 hb] at k
     simp only [bcase] at k
     split at k
     ·rename_i hw; exact lift (zIR hp hK k) fun K' k'=>by unfold zE6; simp only [hg,hd,hb,bcase,hw,if_true]; rw [zF2 hb]; exact k'
     ·rename_i hw; exact ⟨_,_,k,fun K' k'=>by unfold zE6; simp only [hg,hd,hb,bcase,hw,if_false]; rw [zF2 hb]; exact k'⟩
   ·exact k.elim
   ·rename_i h1 h2
    refine ⟨_,_,k,fun K' k' => ?_⟩
    unfold zE6
    simp only [hg,hd]
    exact k'

def chk (E:Env) (H:zDY) (an:zDM) (id:Nat) (ops:Array Oper) (x:Oper×Nat) (a:zDN) (σ:zA6):Prop :=
 zE6 E H (an.ann id x.2) ops x.1 (fun a' σ'=>σ'=σ/\zFF x.1.dst a' a) a σ

theorem put_ne (a:zDN) {dst:Option Tmp} (v:TV) {t:Nat} (h:dst≠some t):(a.put dst v).t t=a.t t:=by
 cases dst with
 | none=>rfl
 | some d =>
  show (if t=d then v else a.t t)=a.t t
  rw [if_neg]; rintro rfl; exact h rfl

theorem zIT (a:zDN) (dst:Option Tmp) (v:TV):zEW (fun t=>dst=some t) a (a.put dst v) :=
 ⟨by cases dst <;> rfl,fun t ht=>put_ne a v ht⟩

theorem chk_put (hH:HOk E H) {id:Nat} {x y:Oper×Nat} {v:TV} (hc:zIK ops y x=false) (h:chk E H an id ops y a σ):chk E H an id ops y (a.put x.1.dst v) σ:=by
 have hc1:∀ t∈y.1.looksAt ops,¬ x.1.dst=some t:=by
  intro t ht e
  unfold zIK at hc
  rw [e] at hc
  simp only [Bool.or_eq_false_iff] at hc
  have:(y.1.looksAt ops).contains t=true:=by simpa using ht
  rw [this] at hc; cases hc.1
 have hc2:∀ t,y.1.dst=some t->¬ x.1.dst=some t:=by
  intro t ht e
  unfold zIK at hc
  rw [e,ht] at hc
  simp at hc
 unfold chk at *
 refine zF3 hH (zIT a x.1.dst v) hc1 (fun a' a1' σ' hu k=>⟨k.1,?_⟩) h
 have k2:=k.2
 unfold zFF at *
 split
 ·rename_i d hd
  rw [hd] at k2
  dsimp only at k2
  rw [hu.t d (.inr hd),k2,put_ne a v (hc2 d hd)]
 ·trivial

theorem zIU (hH:HOk E H) {id:Nat}:∀ (l p:List (Oper×Nat)) (K:zE3) (a:zDN),(∀ x∈l,zET x.1=true)->zIM ops l=true->(∀ y∈p,chk E H an id ops y a σ)->(∀ y∈p,∀ x∈l,zIK ops y x=false) ->
  zFE E H an id ops l K a σ->zFE E H an id ops l (fun a' σ'=>(∀ y,y∈p\/y∈l->chk E H an id ops y a' σ)/\K a' σ') a σ
 | [],p,K,a,_,_,hp,_,k=>by
  refine ⟨fun y hy => ?_,k⟩
  rcases hy with hy | hy
  ·exact hp y hy
  ·cases hy
 | (o,i) :: l,p,K,a,hpu,hs,hp,hc,k=>by
  unfold zFE at k ⊢
  obtain ⟨v,σ1,⟨e,k1⟩,k2⟩:=zIS (hpu (o,i) (by simp)) (fun _ _ k=>k.1) k
  rw [e] at k2
  simp only [zIM,Bool.and_eq_true,Bool.not_eq_true',List.all_eq_true] at hs
  have hA:∀ y∈(o,i) :: p,chk E H an id ops y (a.put o.dst v) σ:=by
   intro y hy
   rcases List.mem_cons.1 hy with rfl | hy
   ·have hown:∀ t∈o.looksAt ops,¬ o.dst=some t:=by
     intro t ht e
     have:=hs.1
     unfold zIL at this
     rw [e] at this
     have hk:(o.looksAt ops).contains t=true:=by simpa using ht
     simp only at this
     rw [hk] at this; cases this
    have h1:zE6 E H (an.ann id i) ops o (fun a' σ'=>σ'=σ/\a'=a.put o.dst v) a σ:=k2 _ ⟨rfl,rfl⟩
    refine zF3 hH (zIT a o.dst v) hown (fun a' a1' σ' hu k=>⟨k.1,?_⟩) h1
    unfold zFF
    split
    ·rename_i d hd
     rw [hu.t d (.inr hd),k.2]
    ·trivial
   ·exact chk_put (x:=(o,i)) hH (hc y hy (o,i) (by simp)) (hp y hy)
  have hB:∀ y∈(o,i) :: p,∀ x∈l,zIK ops y x=false:=by
   intro y hy x hx
   rcases List.mem_cons.1 hy with rfl | hy
   ·exact hs.2.1 x hx
   ·exact hc y hy x (by simp [hx])
  have hC:=zIU hH l ((o,i) :: p) K (a.put o.dst v) (fun x hx=>hpu x (by simp [hx])) hs.2.2 hA hB k1
  refine k2 _ ⟨rfl,zG0 hH (fun a σ k=>⟨fun y hy=>k.1 y ?_,k.2⟩) _ _ _ hC⟩
  rcases hy with hy | hy
  ·exact .inl (List.mem_cons_of_mem _ hy)
  ·rcases List.mem_cons.1 hy with rfl | hy
   ·exact .inl (by simp)
   ·exact .inr hy
end

section
variable {E:Env} {H:zDY} {rd:Option Nat} {n:Nat} {σ:zA6} {a:zDN} {an:zDM} {hs:zIE} {hn:zIB} {ann:Ann} {o:Oper} {K:zE3} {ops:Array Oper}
theorem genC_ok (hH:zIP E H) (h:zIF E H hn ann o K a σ):zE4 E (zE0 E) ann o K a σ:=by
 unfold zIF at h
 have h:=copF_is E.P hn.obj _ h
 unfold zE4
 split
 ·rename_i hr; rw [hr] at h; exact zID h
 ·rename_i hr; rw [hr] at h; exact (zE1 E).mono _ _ _ _ _ (fun v σ' k=>zID k) (hH _ _ _ _ h)
 ·rename_i hr; rw [hr] at h; exact h
 ·rename_i hr; rw [hr] at h; exact h

theorem zIV {cs:List AV} {gen gen':Prop} (hg:gen->gen') (h:newC ann o cs K gen a σ):zE5 ann o cs K gen' a σ:=by
 unfold newC at h
 unfold zE5
 split
 ·rename_i d hd
  simp only [hd] at h
  split at h
  ·rename_i ho; exact ⟨ho,h⟩
  ·exact h.elim
 ·rename_i hne
  split at h
  ·rename_i d hd; exact absurd hd (hne d rfl)
  ·exact hg h

theorem goC_ok (hH:zIP E H) (k:goC E H hn ann o K a σ):goS E (zE0 E) ann o K a σ:=by
 have hg:zIF E H hn ann o K a σ->zE4 E (zE0 E) ann o K a σ:=genC_ok hH
 unfold goC at k
 unfold goS
 cases ho:o.op with
 | alloc e =>
  simp only [ho] at k ⊢
  split
  ·rename_i z hz; simp only [hz] at k; exact zIV hg k
  ·rename_i hz; simp only [hz] at k
 | box e x =>
  simp only [ho] at k ⊢
  split
  ·rename_i v hz; simp only [hz] at k; exact zIV hg k
  ·rename_i hz; simp only [hz] at k
 | load t x =>
  simp only [ho] at k ⊢
  split
  ·rename_i hz; simp only [hz] at k
   split at k
   ·obtain ⟨v,hv,k⟩:=zIG _ _ k
    rw [hv]; exact zID k
   ·split
    ·rename_i v hw; simp only [hw] at k; exact zID k
    ·rename_i hw; simp only [hw] at k
  ·rename_i hz; simp only [hz] at k; exact hg k
 | store t x v =>
  simp only [ho] at k ⊢
  split
  ·rename_i hz; simp only [hz] at k
   split at k
   ·rename_i hc
    simp only [Bool.and_eq_true,Bool.not_eq_true',decide_eq_true_eq,Option.isNone_iff_eq_none] at hc
    exact ⟨hc.1,hc.2.1,hc.2.2.1,Nat.le_of_ble_eq_true hc.2.2.2.1,hc.2.2.2.2,k⟩
   ·exact k.elim
  ·rename_i hz; simp only [hz] at k; exact hg k
 | fieldAddr s x f =>
  simp only [ho] at k ⊢
  split
  ·rename_i hz; simp only [hz] at k
   split
   ·rename_i hw; simp only [hw] at k
    split at k
    ·exact k.elim
    ·rename_i hm
     rw [if_neg (by rintro rfl; simp at hm)]
     exact k
   ·rename_i hw; simp only [hw] at k
  ·rename_i hz; simp only [hz] at k; exact hg k
 | indexAddr t x i =>
  simp only [ho] at k ⊢
  split
  ·rename_i hz; simp only [hz] at k
   split
   ·rename_i h1 h2; simp only [h1,h2] at k
    split
    ·rename_i h3; simp only [h3] at k
     split at k
     ·exact k
     ·split at k
      ·rename_i hc
       simp only [Bool.and_eq_true,decide_eq_true_eq] at hc
       exact ⟨hc.1,hc.2,k⟩
      ·exact k.elim
    ·rename_i h3; simp only [h3] at k
   ·rename_i h1
    split at k
    ·rename_i h2 h3; exact absurd h3 (h1 _ _ _ _ h2)
    ·exact k
  ·rename_i hz; simp only [hz] at k; exact hg k
 | nilCheck x =>
  simp only [ho] at k ⊢
  split
  ·rename_i hz; simp only [hz] at k; exact k
  ·rename_i hz; simp only [hz] at k; exact hg k
 | move x =>
  simp only [ho] at k ⊢
  split
  ·rename_i hz; simp only [hz] at k; exact k
  ·rename_i hz; simp only [hz] at k; exact hg k
 | assign x =>
  simp only [ho] at k ⊢
  split
  ·rename_i hz; simp only [hz] at k; exact k
  ·rename_i hz; simp only [hz] at k; exact hg k
 | _=>simp only [ho] at k ⊢; exact hg k

theorem zIW (hH:zIP E H) (k:zIH E H hn ann ops o K a σ):zE6 E (zE0 E) ann ops o K a σ:=by
 unfold zIH at k
 unfold zE6
 split
 ·rename_i hg; simp only [hg] at k; exact goC_ok hH k
 ·rename_i j want hg
  simp only [hg] at k
  split
  ·rename_i hd; simp only [hd] at k; exact k
  ·rename_i d hd
   simp only [hd] at k
   split
   ·rename_i b hb
    simp only [hb] at k
    cases b <;> cases want <;> simp only [bcase,Bool.false_eq_true,if_true,if_false] at k ⊢ <;> first | exact goC_ok hH k | exact k
   ·rename_i hb; simp only [hb] at k
   ·rename_i h1 h2
    split at k
    ·rename_i b hb; exact absurd hb (h1 b)
    ·exact k.elim
    ·exact k

theorem zIX (hH:zIP E H) {id:Nat}:∀ (l:List Oper) (i:Nat) (a:zDN) (σ:zA6),opsC E H an hs id ops l i K a σ->opsS E (zE0 E) an id ops l i K a σ
 | [],_,_,_,k=>k
 | o :: l,i,a,σ,k=>zFZ (zE1 E) (fun a σ k=>zIX hH l (i+1) a σ k) (zIW hH k)

theorem zIY (hH:zIP E H) {id:Nat}:∀ (l:List (Oper×Nat)) (K:zE3) (a:zDN),runC E H an hs id ops l K a σ->zFE E (zE0 E) an id ops l K a σ
 | [],_,_,k=>k
 | (o,i) :: l,K,a,k=>by
  unfold runC at k
  split at k
  ·rename_i hc
   rw [Bool.and_eq_true] at hc
   unfold zFE
   rw [zGY hc.1]
   exact zFZ (zE1 E) (fun a σ' k=>⟨k.1,zIY hH l K a k.2⟩) (zGX hc.2 (zIW hH k))
  ·exact k.elim

theorem zIZ (hH:zIP E H) {id:Nat} {R:Prop}:∀ (l:List (Oper×Nat)),zIJ E H an hs id ops l a σ R->zFG E (zE0 E) an id ops l a σ/\R
 | [],k=>⟨trivial,k⟩
 | (o,i) :: l,k=>by
  unfold zIJ at k
  split at k
  ·rename_i hc
   rw [Bool.and_eq_true] at hc
   unfold zFG
   obtain ⟨h1,h2⟩:=zIZ hH l k.2
   refine ⟨⟨?_,h1⟩,h2⟩
   simp only [zGY hc.1]
   refine zFZ (zE1 E) (fun a' σ' k=>⟨k.1,?_⟩) (zGX hc.2 (zIW hH k.1))
   have h2:=k.2
   unfold zII at h2
   unfold zFF
   split
   ·rename_i d hd; simp only [hd] at h2; exact h2
   ·trivial
  ·exact k.elim

theorem zJ0 {id:Nat}:∀ (l:List (Oper×Nat)) (K:zE3) (a:zDN),zFE E (zE0 E) an id ops l K a σ->zFE E (zE0 E) an id ops l (fun a' σ'=>σ'=σ/\K a' σ') a σ:=by
 intro l
 induction l with
 | nil=>intro K a k; exact ⟨rfl,k⟩
 | cons x l ih =>
  intro K a k
  exact zFZ (zE1 E) (fun a' σ' k=>⟨k.1,ih K a' k.2⟩) k
theorem zJ1 {id:Nat} {H':zDY}:∀ {l:List (Oper×Nat)},(∀ x∈l,zE6 E H' (an.ann id x.2) ops x.1 (fun a' σ'=>σ'=σ/\zFF x.1.dst a' a) a σ)->zFG E H' an id ops l a σ
 | [],_=>trivial
 | x :: l,h=>⟨h x (by simp),zJ1 fun y hy=>h y (by simp [hy])⟩

theorem zJ2 {α:Type} {p q:α->Prop} (h:∀ x,p x->q x):∀ l,allC p l->allE q l
 | [],_=>trivial
 | [x],k=>h _ k
 | x :: y :: r,k=>⟨h _ k.1,zJ2 h (y :: r) k.2⟩

theorem zJ3 (hH:zIP E H) {id:Nat} {anc eff:List Nat}:∀ (f:Nat) (done:List Nat) (K:zE3) (a:zDN) (σ:zA6),zIN E H an hs id ops anc eff f done K a σ->zFI E (zE0 E) an id ops anc eff f done K a σ
 | 0,_,_,_,_,k=>k.elim
 | f+1,done,K,a,σ,k=>by
  unfold zIN at k
  split at k
  case h_2=>exact k.elim
  rename_i hset
  rw [Bool.and_eq_true,List.all_eq_true] at hset
  unfold zFI
  have k:=zIU (zE1 E) _ [] _ a hset.2 hset.1 (by simp) (by simp) (zIY hH _ _ _ k)
  refine zG0 (zE1 E) (fun a' σ' k => ?_) _ _ _ (zJ0 _ _ _ k)
  obtain ⟨rfl,k0,k⟩:=k
  obtain ⟨k1,k2⟩:=zIZ hH _ k
  refine ⟨zJ1 fun x hx => ?_,?_⟩
  ·obtain ⟨hx1,hx2⟩:=List.mem_filter.1 hx
   cases hn:zFB anc eff done x with
   | true=>exact k0 x (.inr (List.mem_filter.2 ⟨hx1,hn⟩))
   | false=>exact zFK k1 x (List.mem_filter.2 ⟨hx1,by rw [hx2,hn]; rfl⟩)
  ·split
   ·rename_i e; rw [e] at k2; exact k2
   ·rename_i e; rw [e] at k2
    dsimp only at k2
    exact zJ2 (fun oi k=>zFZ (zE1 E) (fun a σ k=>zJ3 hH f _ K a σ k) (zIW hH k)) _ k2

theorem zJ4 (hH:zIP E H) (hm:E.P.follows .mixedOrders=true) {L:zFV}:∀ (c:Code) (Q:zDW) (a:zDN) (σ:zA6),(∀ l∈zIO c,zFX n an l=true->∀ Q a σ,L l Q a σ->AWp E rd n l Q a σ)->zFX n an c=true->wpC E H L an hs c Q a σ->AWp E rd n c Q a σ
 | .skip,Q,a,σ,hL,_,h=>zED h
 | .region id ops false,Q,a,σ,hL,hc,h=>by
  simp only [zFX,Bool.and_eq_true] at hc
  exact zEC (zE1 E) hc.1 (zIX hH _ _ _ _ h)
 | .region id ops true,Q,a,σ,hL,hc,h=>by
  simp only [zFX,Bool.and_eq_true,Bool.not_true,Bool.false_or] at hc
  exact zFU (zE1 E) hm hc.1 hc.2 (zJ3 hH _ _ _ _ _ h)
 | .seq x y,Q,a,σ,hL,hc,h=>by
  simp only [zFX,Bool.and_eq_true] at hc
  refine zEG ((zJ4 hH hm x _ a σ (fun l hl=>hL l (List.mem_append_left _ hl)) hc.1 h).mono fun e a σ k => ?_)
  cases e <;> first | exact zJ4 hH hm y Q a σ (fun l hl=>hL l (List.mem_append_right _ hl)) hc.2 k | exact k
 | .cond c x y,Q,a,σ,hL,hc,h=>by
  simp only [zFX,Bool.and_eq_true] at hc
  simp only [wpC] at h
  split at h
  ·rename_i b hb
   refine zEH hb (fun e => ?_) (fun e => ?_)
   ·subst e; rw [zFY hb] at h; exact zJ4 hH hm x Q _ σ (fun l hl=>hL l (List.mem_append_left _ hl)) hc.1 h
   ·subst e; simp only [bcase] at h; rw [zFY hb] at h; exact zJ4 hH hm y Q _ σ (fun l hl=>hL l (List.mem_append_right _ hl)) hc.2 h
  ·exact h.elim
 | .block id c,Q,a,σ,hL,hc,h=>by
  refine zEI ((zJ4 hH hm c _ a σ hL hc h).mono fun e a σ k => ?_)
  cases e with
  | exit id' =>
   simp only at k ⊢
   split at k
   ·rename_i e; rw [if_pos (by simpa using e)]; exact k
   ·rename_i e; rw [if_neg (by rintro rfl; rw [Nat.beq_refl] at e; cases e)]; exact k
  | _=>exact k
 | .loop c,Q,a,σ,hL,hc,h=>hL _ (by simp [zIO]) hc _ _ _ h
 | .rangeFunc f ps x y,Q,a,σ,hL,hc,h=>hL _ (by simp [zIO]) hc _ _ _ h
 | .exit id,Q,a,σ,hL,hc,h=>zEE h
 | .ret,Q,a,σ,hL,hc,h=>zEF h
 | .scope c,Q,a,σ,hL,hc,h=>h.elim
 | .label l,Q,a,σ,hL,hc,h=>h.elim
 | .goto l,Q,a,σ,hL,hc,h=>h.elim
 | .refuse y,Q,a,σ,hL,hc,h=>h.elim
end

def retX (P:Program) (rs:List ResultVar) (Q:AV->zA6->Prop) (a:zDN) (σ:zA6):Prop :=
 match ares P a σ rs with
 | some v=>Q v σ
 | none=>False

def retC (P:Program) (rs:List ResultVar) (Q:AV->zA6->Prop) (e:Exit) (a:zDN) (σ:zA6):Prop :=
 match e with
 | .normal=>retX P rs Q a σ
 | .ret=>retX P rs Q a σ
 | _=>False

theorem zJ5 {P:Program} {rs:List ResultVar} {Q:AV->zA6->Prop} {e:Exit} {a:zDN} {σ:zA6} (h:retC P rs Q e a σ):bodyQ P rs Q e a σ:=by
 have key:retX P rs Q a σ->∃ v v' σ',ares P a σ rs=some v/\Wk v v'/\σ'.Le σ/\Q v' σ':=by
  intro h
  unfold retX at h
  split at h
  ·rename_i v hv; exact ⟨v,v,σ,hv,.refl v,.refl σ,h⟩
  ·exact h.elim
 cases e <;> first | exact key h | exact h.elim

def zJ6 (E:Env) (H:zDY) (L:zFV) (A:Nat->zDM) (hs:zIE) (f:Nat) (args:List AV) (σ:zA6) (Q:AV->zA6->Prop):Prop :=
 match E.P.funcs[f]? with
 | some fn=>match fn.body with
  | some c=>match zFX fn.ntmps (A f) c&&Nat.ble args.length fn.ntmps with
   | true=>wpC E H L (A f) hs c (retC E.P fn.results.toList Q) (zEN args) σ
   | false=>False
  | none=>False
 | none=>False

def zJ7 (P:Program) (f:Nat):List Code :=
 match P.funcs[f]? with
 | some fn=>match fn.body with
  | some c=>zIO c
  | none=>[]
 | none=>[]
def zJ8 (P:Program) (f:Nat):Nat :=
 match P.funcs[f]? with
 | some fn=>fn.ntmps
 | none=>0

theorem zJ9 {E:Env} {H:zDY} {L:zFV} {A:Nat->zDM} {hs:zIE} {f:Nat} {args:List AV} {σ:zA6} {Q:AV->zA6->Prop} (hm:E.P.follows .mixedOrders=true) (hH:zIP E H)
  (hL:∀ l∈zJ7 E.P f,zFX (zJ8 E.P f) (A f) l=true->∀ Q a σ,L l Q a σ->AWp E none (zJ8 E.P f) l Q a σ) (h:zJ6 E H L A hs f args σ Q):zDV E f args σ Q:=by
 unfold zJ6 at h
 unfold zJ7 zJ8 at hL
 split at h
 ·rename_i fn hf
  rw [hf] at hL
  dsimp only at hL
  split at h
  ·rename_i c hb
   rw [hb] at hL
   dsimp only at hL
   split at h
   ·rename_i hc
    rw [Bool.and_eq_true] at hc
    exact zEP hf hb (Nat.le_of_ble_eq_true hc.2) ((zJ4 hH hm c _ _ σ hL hc.1 h).mono fun e a σ k=>zJ5 k)
   ·exact h.elim
  ·exact h.elim
 ·exact h.elim

def zJA (E:Env) (H:zDY) (own:Nat) (rd:Option Nat) (n:Nat) (an:zDM) (hs:zIE):Nat->zFV
 | 0=>fun _ _ _ _=>False
 | k+1=>fun c Q a σ=>match c with
  | .loop b=>wpC E H (zJA E H own rd n an hs k) an hs b (fun e a σ=>match e with | .normal=>zJA E H own rd n an hs k (.loop b) Q a σ | e=>Q e a σ) a σ
  | _=>False

theorem zJB {E:Env} {H:zDY} {rd:Option Nat} {n:Nat} {an:zDM} {hs:zIE} (hH:zIP E H) (hm:E.P.follows .mixedOrders=true) (own:Nat):∀ (k:Nat) (c:Code),zFX n an c=true->∀ (Q:zDW) (a:zDN) (σ:zA6),zJA E H own rd n an hs k c Q a σ->AWp E rd n c Q a σ
 | 0,_,_,_,_,_,h=>h.elim
 | k+1,c,hc,Q,a,σ,h=>by
  unfold zJA at h
  split at h
  ·rename_i b
   refine zEK (fun m a σ=>m<=k+1/\zJA E H own rd n an hs m (.loop b) Q a σ) (m:=k+1) ⟨Nat.le_refl _,h⟩ fun m a σ hI => ?_
   cases m with
   | zero=>exact absurd hI.2 (by simp [zJA])
   | succ m =>
    refine (zJ4 hH hm (L:=zJA E H own rd n an hs m) b _ a σ (fun l _ hl Q a σ=>zJB hH hm own m l hl Q a σ) hc hI.2).mono fun e a σ h => ?_
    cases e <;> first | exact ⟨m,Nat.lt_succ_self m,Nat.le_of_succ_le hI.1,h⟩ | exact h
  ·exact h.elim
 termination_by k=>k

abbrev zJC:=List AV->zA6->(AV->zA6->Prop)->Prop
def zJD (E:Env) (f:Nat) (c:zJC):Prop:=∀ args σ Q,c args σ Q->zDV E f args σ Q

def zJE (E:Env) (A:Nat->zDM) (N:Nat->zIE) (T:Nat->Option zJC) (lf:Nat):Nat->zDY
 | 0=>fun _ _ _ _=>False
 | k+1=>fun t args σ Q=>match t with
  | .yield id=>False
  | .fn f=>match T f with
   | some c=>c args σ Q
   | none=>zJ6 E (zJE E A N T lf k) (zJA E (zJE E A N T lf k) f none (zJ8 E.P f) (A f) (N f) lf) A (N f) f args σ Q

theorem zJF {E:Env} (hm:E.P.follows .mixedOrders=true) {A:Nat->zDM} {N:Nat->zIE} {T:Nat->Option zJC} {lf:Nat} (hT:∀ f c,T f=some c->zJD E f c):∀ k,zIP E (zJE E A N T lf k)
 | 0=>fun _ _ _ _ h=>h.elim
 | k+1=>fun t args σ Q h=>by
  unfold zJE at h
  cases t with
  | yield id=>exact h.elim
  | fn f =>
   dsimp only at h
   split at h
   ·rename_i c hc; exact hT f c hc _ _ _ h
   ·have ih:=zJF (A:=A) (N:=N) (lf:=lf) hm hT k
    exact zJ9 hm ih (fun l _ hl Q a σ k=>zJB ih hm f lf l hl Q a σ k) h

def tabC:List (Nat×zJC)->Nat->Option zJC
 | [],_=>none
 | (k,c) :: l,f=>match Nat.beq k f with
  | true=>some c
  | false=>tabC l f
theorem zJG {E:Env}:∀ {l:List (Nat×zJC)},(∀ p∈l,zJD E p.1 p.2)->∀ f c,tabC l f=some c->zJD E f c
 | [],_,_,_,h=>by cases h
 | (k,c') :: l,hl,f,c,h=>by
  unfold tabC at h
  split at h
  ·rename_i e
   have:=Nat.eq_of_beq_eq_true e
   subst this
   cases h
   exact hl (k,c') (by simp)
  ·exact zJG (fun p hp=>hl p (by simp [hp])) f c h

theorem zJH {E:Env}:∀ p∈([]:List (Nat×zJC)),zJD E p.1 p.2:=fun p hp=>by cases hp
theorem zJI {E:Env} {f:Nat} {c:zJC} {l:List (Nat×zJC)} (h:zJD E f c) (hl:∀ p∈l,zJD E p.1 p.2):∀ p∈(f,c) :: l,zJD E p.1 p.2:=fun p hp=>by
 rcases List.mem_cons.1 hp with rfl | hp
 ·exact h
 ·exact hl p hp

def hnd (E:Env) (A:Nat->zDM) (N:Nat->zIE) (l:List (Nat×zJC)):zDY:=zJE E A N (tabC l) 100 50
theorem zJJ {E:Env} {A:Nat->zDM} {N:Nat->zIE} {l:List (Nat×zJC)} (hm:E.P.follows .mixedOrders=true) (hl:∀ p∈l,zJD E p.1 p.2):zIP E (hnd E A N l):=by
 unfold hnd
 generalize 100=lf
 generalize 50=k
 exact zJF hm (zJG hl) k

end Go.V
namespace Go.V
open Go.RowKit

structure zDN.Wk (a' a:zDN):Prop where
 t:∀ t,a'.t t = .v .undef\/(a'.t t=a.t t/\∀ k off,a.t t = .l k off->a'.l k=a.l k)\/(∃ x x',a.t t = .v x/\a'.t t = .v x'/\Go.V.Wk x x')

section
variable {E:Env} {H:zDY} {rd:Option Nat} {n:Nat} {R0:Nat->Option Obj} {loc:Nat->Option Nat} {g:zA2} {σ:zA6} {w:World} {a a':zDN} {act:Act} {an:zDM}
theorem Fr.wk (h:Fr n R0 E.B g loc a act) (hw:a'.Wk a):∃ loc',Fr n R0 E.B g loc' a' act:=by
 classical
 refine ⟨fun k=>if a'.l k=a.l k then loc k else none,h.size,h.marks,fun t => ?_,fun k b hk => ?_,fun k j b hk hj => ?_,h.sub⟩
 ·rcases hw.t t with e | ⟨e,hl⟩ | ⟨x,x',e1,e2,hx⟩
  ·rw [e]; exact RV.undef _
  ·have ht:=h.tmp t
   rw [e]
   cases hx:a.t t with
   | v x=>rw [hx] at ht; exact ht
   | l k off =>
    rw [hx] at ht
    obtain ⟨b,hb,hu⟩:=ht
    exact ⟨b,by dsimp only; rw [if_pos (hl k off hx)]; exact hb,hu⟩
  ·have ht:=h.tmp t
   rw [e1] at ht
   rw [e2]
   exact hx _ _ ht
 ·split at hk
  ·rename_i e
   rw [e]; exact h.cell k b hk
  ·cases hk
 ·split at hk
  ·split at hj
   ·exact h.inj k j b hk hj
   ·cases hj
  ·cases hk

theorem AWp.pre_wk {c:Code} {Q:zDW} {σ':zA6} (hw:a'.Wk a) (hl:σ'.Le σ) (h:AWp E rd n c Q a' σ'):AWp E rd n c Q a σ :=
 ⟨fun g w act loc R0 F hF hG hS hT=>by
  obtain ⟨loc',hT'⟩:=hT.wk hw
  exact h.run g w act loc' R0 F hF hG (hS.forget hl) hT'⟩

theorem AWp.post_wk {c:Code} {Q:zDW} (h:AWp E rd n c (fun e a σ=>∃ a' σ',a'.Wk a/\σ'.Le σ/\Q e a' σ') a σ):AWp E rd n c Q a σ :=
 ⟨fun g w act loc R0 F hF hG hS hT=>wpIn_mono (h.run g w act loc R0 F hF hG hS hT) fun e act' w' k=>by
  cases e <;> first | exact k | (
   obtain ⟨g',a1,σ1,loc1,h1,h2,h3,a2,σ2,h4,h5,h6⟩:=k
   obtain ⟨loc',h7⟩:=h3.wk h4
   exact ⟨g',a2,σ2,loc',h1,h2.forget h5,h7,h6⟩)⟩
end

def lukT:List (Nat×TV)->Nat->TV
 | [],_ => .v .undef
 | (i,v) :: r,j=>match Nat.beq i j with
  | true=>v
  | false=>lukT r j
def lukL:List (Nat×List AV)->Nat->List AV
 | [],_=>[]
 | (i,v) :: r,j=>match Nat.beq i j with
  | true=>v
  | false=>lukL r j

def frm (F:List (Nat×TV)) (FL:List (Nat×List AV)):zDN:=⟨lukT F,lukL FL⟩

def hasT (a:zDN):List (Nat×TV)->Prop->Prop
 | [],R=>R
 | (i,v) :: r,R=>a.t i=v/\hasT a r R
def hasL (a:zDN):List (Nat×List AV)->Prop->Prop
 | [],R=>R
 | (i,v) :: r,R=>a.l i=v/\hasL a r R
def okF (FL:List (Nat×List AV)):List (Nat×TV)->Bool
 | []=>true
 | (_,.v _) :: r=>okF FL r
 | (_,.l k _) :: r=>FL.any (fun x=>Nat.beq x.1 k)&&okF FL r

def atF (a:zDN) (F:List (Nat×TV)) (FL:List (Nat×List AV)) (R:Prop):Prop :=
 match okF FL F with
 | true=>hasT a F (hasL a FL R)
 | false=>False

theorem zJK {a:zDN} {R:Prop}:∀ {FL:List (Nat×List AV)},hasL a FL R->R/\∀ k,FL.any (fun x=>Nat.beq x.1 k)=true->lukL FL k=a.l k
 | [],h=>⟨h,fun k hk=>by simp at hk⟩
 | (i,v) :: r,h=>by
  obtain ⟨h1,h2⟩:=zJK h.2
  refine ⟨h1,fun k hk => ?_⟩
  unfold lukL
  split
  ·rename_i e
   have:i=k:=Nat.eq_of_beq_eq_true e
   subst this; exact h.1.symm
  ·rename_i e
   refine h2 k ?_
   simp only [List.any_cons,Bool.or_eq_true] at hk
   rcases hk with hk | hk
   ·rw [e] at hk; cases hk
   ·exact hk
theorem zJL {a:zDN} {R:Prop} {FL:List (Nat×List AV)}:∀ {F:List (Nat×TV)},okF FL F=true->hasT a F R->R/\∀ t,lukT F t = .v .undef\/(lukT F t=a.t t/\∀ k off,a.t t = .l k off->FL.any (fun x=>Nat.beq x.1 k)=true)
 | [],_,h=>⟨h,fun t => .inl rfl⟩
 | (i,v) :: r,ho,h=>by
  have ho':okF FL r=true:=by
   cases v with
   | v x=>exact ho
   | l k off=>simp only [okF,Bool.and_eq_true] at ho; exact ho.2
  obtain ⟨h1,h2⟩:=zJL ho' h.2
  refine ⟨h1,fun t => ?_⟩
  unfold lukT
  split
  ·rename_i e
   have:i=t:=Nat.eq_of_beq_eq_true e
   subst this
   refine .inr ⟨h.1.symm,fun k off hk => ?_⟩
   rw [h.1] at hk
   subst hk
   simp only [okF,Bool.and_eq_true] at ho
   exact ho.1
  ·exact h2 t

theorem zJM {a:zDN} {F:List (Nat×TV)} {FL:List (Nat×List AV)} {R:Prop} (h:atF a F FL R):(frm F FL).Wk a/\R:=by
 unfold atF at h
 split at h
 ·rename_i ho
  obtain ⟨h1,h2⟩:=zJL ho h
  obtain ⟨h3,h4⟩:=zJK h1
  refine ⟨⟨fun t => ?_⟩,h3⟩
  rcases h2 t with e | ⟨e,hk⟩
  ·exact .inl e
  ·exact .inr (.inl ⟨e,fun k off hko=>h4 k (hk k off hko)⟩)
 ·exact h.elim

def lst (L:List zA5) (n:Nat):zA6:=⟨fun j=>L.getD j .dead,n⟩

def isDead:zA5->Bool
 | .dead=>true
 | _=>false
def zJN (σ:zA6):Nat->List zA5->Prop->Prop
 | _,[],R=>R
 | i,o :: L,R=>match isDead o with
  | true=>zJN σ (i+1) L R
  | false=>σ.objs i=o/\zJN σ (i+1) L R
def atS (σ:zA6) (L:List zA5) (n:Nat) (R:Prop):Prop:=σ.next=n/\zJN σ 0 L R

theorem zJO {o:zA5} (h:isDead o=true):o = .dead:=by cases o <;> first | rfl | cases h
theorem zJP {σ:zA6} {R:Prop}:∀ {L:List zA5} {i:Nat},zJN σ i L R->R/\∀ j,L.getD j .dead=σ.objs (i+j)\/L.getD j .dead = .dead
 | [],i,h=>⟨h,fun j => .inr (by simp)⟩
 | o :: L,i,h=>by
  unfold zJN at h
  split at h
  ·rename_i hd
   obtain ⟨h1,h2⟩:=zJP h
   refine ⟨h1,fun j => ?_⟩
   cases j with
   | zero=>exact .inr (zJO hd)
   | succ j=>have:=h2 j; rw [show i+(j+1)=i+1+j by omega]; simpa using this
  ·obtain ⟨h1,h2⟩:=zJP h.2
   refine ⟨h1,fun j => ?_⟩
   cases j with
   | zero=>exact .inl h.1.symm
   | succ j=>have:=h2 j; rw [show i+(j+1)=i+1+j by omega]; simpa using this
theorem atS_ok {σ:zA6} {L:List zA5} {n:Nat} {R:Prop} (h:atS σ L n R):(lst L n).Le σ/\R:=by
 obtain ⟨h1,h2⟩:=h
 obtain ⟨h3,h4⟩:=zJP h2
 exact ⟨⟨h1.symm,fun id=>by have:=h4 id; rw [Nat.zero_add] at this; exact this⟩,h3⟩

section
variable {E:Env} {rd:Option Nat} {n:Nat} {σ:zA6} {a:zDN}
def zJQ (a:zDN) (σ:zA6) (F:List (Nat×TV)) (FL:List (Nat×List AV)) (L:List zA5) (n:Nat):Prop:=atF a F FL (atS σ L n True)
theorem zJR {F:List (Nat×TV)} {FL:List (Nat×List AV)} {L:List zA5} {m:Nat} (h:zJQ a σ F FL L m):(frm F FL).Wk a/\(lst L m).Le σ :=
 ⟨(zJM h).1,(atS_ok (zJM h).2).1⟩

structure LI (X:Type) where
 F:X->List (Nat×TV)
 FL:X->List (Nat×List AV)
 L:X->List zA5
 m:X->Nat
 I:X->Prop
 μ:X->Nat
 Ex:X->Exit->zDN->zA6->Prop

def LI.post {X:Type} (l:LI X) (x:X):zDW:=fun e a σ=>match e with
 | .normal=>∃ x',(l.I x'/\l.μ x'<l.μ x)/\zJQ a σ (l.F x') (l.FL x') (l.L x') (l.m x')
 | e=>l.Ex x e a σ

theorem zJS {X:Type} (l:LI X) {c:Code} {Q:zDW} (hb:∀ x,l.I x->AWp E rd n c (l.post x) (frm (l.F x) (l.FL x)) (lst (l.L x) (l.m x)))
  (hx:∀ x,l.I x->∀ e a σ,e ≠ .normal->l.Ex x e a σ->∃ a' σ',a'.Wk a/\σ'.Le σ/\Q e a' σ')
  {x0:X} (h0:l.I x0) (ha:zJQ a σ (l.F x0) (l.FL x0) (l.L x0) (l.m x0)):AWp E rd n (.loop c) Q a σ:=by
 refine .post_wk (zEK (fun k a σ=>∃ x,l.I x/\l.μ x=k/\(frm (l.F x) (l.FL x)).Wk a/\(lst (l.L x) (l.m x)).Le σ) (m:=l.μ x0) ⟨x0,h0,rfl,zJR ha⟩ ?_)
 rintro k a σ ⟨x,hI,rfl,h1,h2⟩
 refine .pre_wk h1 h2 ((hb x hI).mono fun e a σ k => ?_)
 cases e with
 | normal =>
  obtain ⟨x',⟨h3,h4⟩,h5⟩:=k
  exact ⟨l.μ x',h4,x',h3,rfl,zJR h5⟩
 | _=>exact hx x hI _ _ _ (by simp) k

theorem zJT {e:Exit} {F:List (Nat×TV)} {FL:List (Nat×List AV)} {L:List zA5} {m:Nat} {Q:zDW} (ha:zJQ a σ F FL L m) (hq:Q e (frm F FL) (lst L m)):∃ a' σ',a'.Wk a/\σ'.Le σ/\Q e a' σ' :=
 ⟨_,_,(zJR ha).1,(zJR ha).2,hq⟩

def zJU (P:Program) (f i:Nat):Code :=
 match (zJ7 P f)[i]? with
 | some (.loop c)=>c
 | _ => .skip
end
end Go.V
