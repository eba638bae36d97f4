import Derived.Test.YtgnjidopnplbbaaGreatDoorG5
/- The W-layer, part 1: operations on values that are not known whole: what has to hold is asked as a condition. -/
set_option linter.unusedSimpArgs false
set_option linter.unusedVariables false
namespace Go.V
open Go.RowKit

abbrev Rf {α:Type} (a:α):Prop:=a = a

inductive CRes:Type 1 where
 | leaf (r:Res)
 | br (b:Bool) (x y:CRes)
 | req (p:Prop) (x:CRes)
 | ex (α:Type) (x:α -> CRes)

def CRes.post (k:Res -> Prop):CRes -> Prop
 | .leaf r => k r
 | .br b x y => bcase b (x.post k) (y.post k)
 | .req p x => p /\ x.post k
 | .ex α x => ∃ a,(x a).post k

def CRes.bind (f:Res -> CRes):CRes -> CRes
 | .leaf r => f r
 | .br b x y => .br b (x.bind f) (y.bind f)
 | .req p x => .req p (x.bind f)
 | .ex α x => .ex α fun a => (x a).bind f

def CRes.Is (c:CRes) (r:Res):Prop:=∀ k,c.post k -> k r

theorem CRes.Is.leaf (r:Res):(CRes.leaf r).Is r:=fun _ h => h
theorem CRes.Is.br {b:Bool} {x y:CRes} {r:Res} (hx:b = true -> x.Is r) (hy:b = false -> y.Is r):(CRes.br b x y).Is r:=fun k h => by
 cases b
 ·exact hy rfl k h
 ·exact hx rfl k h
theorem CRes.Is.req {p:Prop} {x:CRes} {r:Res} (hx:p -> x.Is r):(CRes.req p x).Is r:=fun k h => hx h.1 k h.2
theorem CRes.Is.ex {α:Type} {x:α -> CRes} {r:Res} (hx:∀ a,(x a).Is r):(CRes.ex α x).Is r:=fun k ⟨a,h⟩ => hx a k h
theorem CRes.post_bind {f:Res -> CRes} {k:Res -> Prop}:∀ {c:CRes},(c.bind f).post k -> c.post fun r => (f r).post k
 | .leaf r,h => h
 | .br b x y,h => by
  cases b
  ·exact post_bind (c:=y) h
  ·exact post_bind (c:=x) h
 | .req p x,h => ⟨h.1,post_bind h.2⟩
 | .ex α x,⟨a,h⟩ => ⟨a,post_bind h⟩
theorem CRes.Is.bind {c:CRes} {r r':Res} {f:Res -> CRes} (h:c.Is r) (hf:(f r).Is r'):(c.bind f).Is r':=fun k hk => hf k (h _ (CRes.post_bind hk))

abbrev OH:=Option ((α:Type) × (α -> AObj))
def cobj (h:OH) (σ:State) (id:Nat) (k:AObj -> CRes):CRes :=
 match h with
 | none => k (σ.objs id)
 | some ⟨α,f⟩ => .ex α fun x => .req (σ.objs id = f x) (k (f x))
theorem cobj_is {h:OH} {σ:State} {id:Nat} {k:AObj -> CRes} {r:Res} (hk:(k (σ.objs id)).Is r):(cobj h σ id k).Is r:=by
 unfold cobj
 split
 ·exact hk
 ·exact .ex fun x => .req fun e => by rw [<-e]; exact hk

section
variable (P:Program) (h:OH)

def cindexAddr (σ:State) (t:Nat) (x i:AV):CRes :=
 match i with
 | .int k n =>
  match P.underlying t,x with
  | some (.slice e),.slice sz xs m =>
   if szT P e = some sz /\ 0 < sz then .req (0 <= n /\ n < xs.length) (.leaf (.ok (.vptr (xs.getD n.toNat .undef).cells) σ)) else .leaf .fail
  | some (.slice e),.rslice id off len =>
   cobj h σ id fun ob => match ob with
   | .cells cs e' sz g => if szT P e = some sz then .req (0 <= n /\ n < len) (.leaf (.ok (.ptr id ((off + n.toNat) * sz)) σ)) else .leaf .fail
   | _ => .leaf .fail
  | _,_ => .leaf (.of σ (aindexAddr P σ t x (.int k n)))
 | i => .leaf (.of σ (aindexAddr P σ t x i))

theorem cindexAddr_is {σ:State} {t:Nat} {x i:AV}:(cindexAddr P h σ t x i).Is (.of σ (aindexAddr P σ t x i)):=by
 unfold cindexAddr
 split
 ·rename_i k n
  split
  ·rename_i e sz xs m hu
   split
   ·rename_i hc
    refine .req fun hn => ?_
    have h3:n.toNat < xs.length:=by omega
    have:aindexAddr P σ t (.slice sz xs m) (.int k n) = some (.vptr (xs.getD n.toNat .undef).cells):=by
     simp only [aindexAddr,hu]
     rw [if_pos ⟨hn.1,hn.2,hc.1,hc.2⟩]
     simp [h3,List.getD]
    rw [this]; exact .leaf _
   ·rename_i hc
    have:aindexAddr P σ t (.slice sz xs m) (.int k n) = none:=by
     simp only [aindexAddr,hu]
     rw [if_neg fun h => hc ⟨h.2.2.1,h.2.2.2⟩]
    rw [this]; exact .leaf _
  ·rename_i e id off len hu
   refine cobj_is ?_
   split
   ·rename_i cs e' sz g ho
    split
    ·rename_i hc
     refine .req fun hn => ?_
     have:aindexAddr P σ t (.rslice id off len) (.int k n) = some (.ptr id ((off + n.toNat) * sz)):=by
      simp only [aindexAddr,hu,ho]
      rw [if_pos ⟨hn.1,hn.2,hc⟩]
     rw [this]; exact .leaf _
    ·rename_i hc
     have:aindexAddr P σ t (.rslice id off len) (.int k n) = none:=by
      simp only [aindexAddr,hu,ho]
      rw [if_neg fun h => hc h.2.2]
     rw [this]; exact .leaf _
   ·rename_i hne
    have:aindexAddr P σ t (.rslice id off len) (.int k n) = none:=by
     simp only [aindexAddr,hu]
     try (split <;> first | rfl | (rename_i h; exact absurd h (hne _ _ _ _)))
    rw [this]; exact .leaf _
  ·exact .leaf _
 ·exact .leaf _

def cpart (t:Nat) (cs:List AV) (off:Nat) (k:AV -> CRes):CRes :=
 match kindT P t with
 | some (some n) => .req (off + n <= cs.length) (k (.agg ((cs.drop off).take n)))
 | some none => .req (off < cs.length) (k (cs.getD off .undef))
 | none => .leaf .fail

theorem cpart_is {t:Nat} {cs:List AV} {off:Nat} {σ:State}:(cpart P t cs off fun v => .leaf (.ok v σ)).Is (.of σ (apart P t cs off)):=by
 unfold cpart apart
 split
 ·rename_i n hk
  refine .req fun h => ?_
  simp only [hk,if_pos h]; exact .leaf _
 ·rename_i hk
  refine .req fun h => ?_
  have:cs[off]? = some (cs.getD off .undef):=by simp [h,List.getD]
  simp only [hk,this]; exact .leaf _
 ·rename_i hk
  simp only [hk]; exact .leaf _

def cload (σ:State) (t:Nat) (x:AV):CRes :=
 match x with
 | .ptr id off => cobj h σ id fun ob => match ob with
  | .cells cs e sz g => cpart P t cs off fun v => .leaf (.ok v σ)
  | _ => .leaf .fail
 | x => .leaf (.of σ (aload P σ t x))

theorem cload_is {σ:State} {t:Nat} {x:AV}:(cload P h σ t x).Is (.of σ (aload P σ t x)):=by
 unfold cload
 split
 ·rename_i id off
  refine cobj_is ?_
  split
  ·rename_i cs e sz g ho
   have:aload P σ t (.ptr id off) = apart P t cs off:=by simp only [aload,ho]
   rw [this]; exact cpart_is P
  ·rename_i hne
   have:aload P σ t (.ptr id off) = none:=by
    simp only [aload]
    try (split <;> first | rfl | (rename_i h; exact absurd h (hne _ _ _ _)))
   rw [this]; exact .leaf _
 ·exact .leaf _

def cstore (σ:State) (t:Nat) (x v:AV):CRes :=
 match x with
 | .ptr id off => cobj h σ id fun ob => match ob with
  | .cells cs e sz grow =>
   if v.isUndef = false /\ szT P t = some v.cells.length /\ v.cells.all AV.one = true then
    .req (off + v.cells.length <= cs.length) (.leaf (.ok .undef (σ.set id (.cells (asplice cs off v.cells) e sz grow))))
   else .leaf .fail
  | _ => .leaf .fail
 | x => .leaf (astore P σ t x v)

theorem cstore_is {σ:State} {t:Nat} {x v:AV}:(cstore P h σ t x v).Is (astore P σ t x v):=by
 unfold cstore
 split
 ·rename_i id off
  refine cobj_is ?_
  split
  ·rename_i cs e sz grow ho
   split
   ·rename_i hc
    refine .req fun h => ?_
    have:astore P σ t (.ptr id off) v = .ok .undef (σ.set id (.cells (asplice cs off v.cells) e sz grow)):=by
     simp only [astore,ho]
     rw [if_pos ⟨hc.1,hc.2.1,hc.2.2,h⟩]
    rw [this]; exact .leaf _
   ·rename_i hc
    have:astore P σ t (.ptr id off) v = .fail:=by
     simp only [astore,ho]
     rw [if_neg fun h => hc ⟨h.1,h.2.1,h.2.2.1⟩]
    rw [this]; exact .leaf _
  ·rename_i hne
   have:astore P σ t (.ptr id off) v = .fail:=by
    simp only [astore]
    try (split <;> first | rfl | (rename_i h; exact absurd h (hne _ _ _ _)))
   rw [this]; exact .leaf _
 ·exact .leaf _

def cbin (σ:State) (op:BinOp) (t:Nat) (cst:Bool) (x y:AV):CRes :=
 match op,x,y with
 | .quo,.int k a,.int k' b => if k = k' then .req (b ≠ 0) (.leaf (.ok (.int k (k.wrap (a.tdiv b))) σ)) else .leaf .fail
 | .rem,.int k a,.int k' b => if k = k' then .req (b ≠ 0) (.leaf (.ok (.int k (a.tmod b)) σ)) else .leaf .fail
 | .add,.str a,.str b => .req (a.size + b.size <= 4611686018427387904) (.leaf (.ok (.str (a ++ b)) σ))
 | op,x,y => .leaf (.of σ (abin P op t cst x y))

theorem cbin_is {σ:State} {op:BinOp} {t:Nat} {cst:Bool} {x y:AV}:(cbin P σ op t cst x y).Is (.of σ (abin P op t cst x y)):=by
 unfold cbin
 split
 ·rename_i k a k' b
  split
  ·rename_i hk
   subst hk
   refine .req fun h => ?_
   simp only [abin,aint,if_neg h]
   simp; exact .leaf _
  ·rename_i hk
   simp only [abin]
   simp [hk]; exact .leaf _
 ·rename_i k a k' b
  split
  ·rename_i hk
   subst hk
   refine .req fun h => ?_
   simp only [abin,aint,if_neg h]
   simp; exact .leaf _
  ·rename_i hk
   simp only [abin]
   simp [hk]; exact .leaf _
 ·rename_i a b
  refine .req fun h => ?_
  simp only [abin,astrop,if_pos h]
  exact .leaf _
 ·exact .leaf _

def cbound (x:AV) (y:Nat) (k:Nat -> CRes):CRes :=
 match x with
 | .int _ i => .req (0 <= i /\ i <= y) (k i.toNat)
 | _ => .leaf .fail

theorem cbound_is {x:AV} {y:Nat} {k:Nat -> CRes} {r:Res} {f:Option Nat -> Res} (hn:f none = .fail) (h:∀ i,(k i).Is (f (some i))) (hr:f (abound x y) = r):(cbound x y k).Is r:=by
 subst hr
 unfold cbound
 split
 ·rename_i kk i
  refine .req fun hi => ?_
  simp only [abound,if_pos hi]
  exact h _
 ·rename_i hne
  have:abound x y = none:=by
   unfold abound
   split
   ·exact absurd rfl (hne _ _)
   ·rfl
  rw [this,hn]; exact .leaf _

def cbounds (len:Nat) (lo hi:Option AV) (top:Nat) (k:Nat -> Nat -> CRes):CRes :=
 match hi with
 | some v => cbound v top fun h => match lo with
  | some w => cbound w h fun l => k l h
  | none => k 0 h
 | none => match lo with
  | some w => cbound w len fun l => k l len
  | none => k 0 len

theorem cbounds_is {len:Nat} {lo hi:Option AV} {top:Nat} {k:Nat -> Nat -> CRes} {f:Option (Nat × Nat) -> Res} (hn:f none = .fail) (h:∀ l i,(k l i).Is (f (some (l,i)))) :
  (cbounds len lo hi top k).Is (f (abounds len lo hi top)):=by
 unfold cbounds abounds
 cases hi with
 | some v =>
  refine cbound_is (f:=fun o => f (match o with | some h => (match (match lo with | some v => abound v h | none => some 0) with | some l => some (l,h) | none => none) | none => none)) hn (fun i => ?_) rfl
  cases lo with
  | some w => exact cbound_is (f:=fun o => f (match o with | some l => some (l,i) | none => none)) hn (fun l => h l i) rfl
  | none => exact h 0 i
 | none =>
  cases lo with
  | some w => exact cbound_is (f:=fun o => f (match o with | some l => some (l,len) | none => none)) hn (fun l => h l len) rfl
  | none => exact h 0 len

def cslice (σ:State) (t:Nat) (x:AV) (lo hi mx:Option AV):CRes :=
 match P.underlying t,x,mx with
 | some .string,.str s,none => cbounds s.size lo hi s.size fun l h => .leaf (.ok (.str (s.extract l h)) σ)
 | some (.slice e),.slice sz xs m,none =>
  if szT P e = some sz then
   match m,hi with
   | .any,hi => cbounds xs.length lo hi xs.length fun l h => .leaf (.ok (.slice sz ((xs.take h).drop l) .any) σ)
   | .full,none => cbounds xs.length lo none xs.length fun l h => .leaf (.ok (.slice sz (xs.drop l) .full) σ)
   | .full,some hi => cbounds xs.length lo (some hi) xs.length fun l h => .br (decide (h = xs.length)) (.leaf (.ok (.slice sz ((xs.take h).drop l) .full) σ)) (.leaf (.ok (.slice sz ((xs.take h).drop l) .nn) σ))
   | _,hi => cbounds xs.length lo hi xs.length fun l h => .leaf (.ok (.slice sz ((xs.take h).drop l) .nn) σ)
  else .leaf .fail
 | some (.slice e),.rslice id off len,none =>
  cobj h σ id fun ob => match ob with
  | .cells cs e' sz g => if szT P e = some sz then cbounds len lo hi len fun l h => .leaf (.ok (.rslice id (off + l) (h - l)) σ) else .leaf .fail
  | _ => .leaf .fail
 | some (.slice e),.rslice id off len,some v =>
  cobj h σ id fun ob => match ob,hi with
  | .cells cs e' sz g,some hi => if szT P e = some sz then cbound v len fun c => cbounds len lo (some hi) c fun l h => .leaf (.ok (.view id (off + l) (h - l)) σ) else .leaf .fail
  | _,_ => .leaf .fail
 | _,_,_ => .leaf (.of σ (aslice P σ t x lo hi mx))

theorem cslice_is {σ:State} {t:Nat} {x:AV} {lo hi mx:Option AV}:(cslice P h σ t x lo hi mx).Is (.of σ (aslice P σ t x lo hi mx)):=by
 unfold cslice
 split
 ·rename_i s hu
  simp only [aslice,hu]
  exact cbounds_is (f:=fun o => Res.of σ (match o with | some (l,h) => some (.str (s.extract l h)) | none => none)) rfl (fun l i => .leaf _)
 ·rename_i e sz xs m hu
  split
  ·rename_i hc
   simp only [aslice,hu,if_pos hc]
   split
   ·rename_i hi'
    exact cbounds_is (f:=fun o => Res.of σ (match o with | some (l,h) => some (.slice sz ((xs.take h).drop l) (if Cap.any = .full /\ h = xs.length then .full else if Cap.any = .any then .any else .nn)) | none => none)) rfl (fun l i => by simp; exact .leaf _)
   ·have:∀ (l h:Nat),h = xs.length -> (xs.take h).drop l = xs.drop l:=by rintro l h rfl; rw [List.take_length]
    have key:abounds xs.length lo none xs.length = (match (match lo with | some v => abound v xs.length | none => some 0) with | some l => some (l,xs.length) | none => none):=by
     unfold abounds; rfl
    rw [key]
    unfold cbounds
    cases lo with
    | some w =>
     exact cbound_is (f:=fun o => Res.of σ (match (match o with | some l => some (l,xs.length) | none => none:Option (Nat × Nat)) with | some (l,h) => some (.slice sz ((xs.take h).drop l) (if Cap.full = .full /\ h = xs.length then .full else if Cap.full = .any then .any else .nn)) | none => none)) rfl (fun l => by simp; exact .leaf _) rfl
    | none => simp; exact .leaf _
   ·rename_i hi'
    exact cbounds_is (f:=fun o => Res.of σ (match o with | some (l,h) => some (.slice sz ((xs.take h).drop l) (if Cap.full = .full /\ h = xs.length then .full else if Cap.full = .any then .any else .nn)) | none => none)) rfl (fun l i => by
     refine .br (fun hb => ?_) (fun hb => ?_)
     ·have hb':i = xs.length:=by simpa using hb
      simp [hb']; exact .leaf _
     ·have hb':i ≠ xs.length:=by simpa using hb
      simp [hb']; exact .leaf _)
   ·rename_i h1 h2 h3
    exact cbounds_is (f:=fun o => Res.of σ (match o with | some (l,h) => some (.slice sz ((xs.take h).drop l) (if m = .full /\ h = xs.length then .full else if m = .any then .any else .nn)) | none => none)) rfl (fun l i => by
     have e1:m ≠ .any:=fun e => h1 e
     have e2:m ≠ .full:=by
      intro e
      cases hh:hi with
      | none => exact h2 e hh
      | some v => exact h3 v e hh
     simp [e1,e2]; exact .leaf _)
  ·rename_i hc
   simp only [aslice,hu,if_neg hc]
   exact .leaf _
 ·rename_i e id off len hu
  refine cobj_is ?_
  split
  ·rename_i cs e' sz g ho
   simp only [aslice,hu,ho]
   split
   ·rename_i hc
    exact cbounds_is (f:=fun o => Res.of σ (match o with | some (l,h) => some (.rslice id (off + l) (h - l)) | none => none)) rfl (fun l i => .leaf _)
   ·exact .leaf _
  ·rename_i hne
   have:aslice P σ t (.rslice id off len) lo hi none = none:=by
    simp only [aslice,hu]
    try (split <;> first | rfl | (rename_i h; exact absurd h (hne _ _ _ _)))
   rw [this]; exact .leaf _
 ·rename_i e id off len v hu
  refine cobj_is ?_
  split
  ·rename_i cs e' sz g hi' ho
   simp only [aslice,hu,ho]
   split
   ·rename_i hc
    refine cbound_is (f:=fun o => Res.of σ (match o with | some c => (match abounds len lo (some hi') c with | some (l,h) => some (.view id (off + l) (h - l)) | none => none) | none => none)) rfl (fun c => ?_) ?_
    ·exact cbounds_is (f:=fun o => Res.of σ (match o with | some (l,h) => some (.view id (off + l) (h - l)) | none => none)) rfl (fun l i => .leaf _)
    ·cases abound v len <;> rfl
   ·exact .leaf _
  ·rename_i hiv hne
   have:∀ hh,(∀ cs e' sz g v,σ.objs id = .cells cs e' sz g -> hh = some v -> False) -> aslice P σ t (.rslice id off len) lo hh (some v) = none:=by
    intro hh hne
    simp only [aslice,hu]
    split
    ·rename_i cs e' sz g ho
     split
     ·cases hh with
      | none => cases abound v len <;> rfl
      | some hi' => exact (hne _ _ _ _ _ ho rfl).elim
     ·rfl
    ·rfl
   rw [this _ (fun cs e' sz g v h1 h2 => hne cs e' sz g v h1 h2)]; exact .leaf _
 ·exact .leaf _

def cpick (e sz:Nat) (cs:List AV) (σ:State) (n:Int):Nat -> Nat -> CRes
 | _,0 => .leaf .fail
 | j,m + 1 => .br (decide (n = j)) (.leaf (.of σ (apart P e cs (j * sz)))) (cpick e sz cs σ n (j + 1) m)

theorem cpick_is {e sz:Nat} {cs:List AV} {σ:State} {n:Int} {r:Res}:∀ (m j:Nat),((hn:(j:Int) <= n) -> n < (j + m:Nat) -> r = .of σ (apart P e cs (n.toNat * sz))) -> ((n < j \/ (j + m:Nat) <= n) -> r = .fail) -> (cpick P e sz cs σ n j m).Is r
 | 0,j,h1,h2 => by
  rw [h2 (by omega)]; exact .leaf _
 | m + 1,j,h1,h2 => by
  refine .br (fun hb => ?_) (fun hb => ?_)
  ·have hb':n = j:=by simpa using hb
   rw [h1 (by omega) (by omega),hb',Int.toNat_natCast]; exact .leaf _
  ·have hb':n ≠ j:=by simpa using hb
   exact cpick_is m (j + 1) (fun hn h => h1 (by omega) (by omega)) (fun h => h2 (by omega))

def cindex (σ:State) (t:Nat) (x i:AV):CRes :=
 match i with
 | .int k n =>
  match P.underlying t,x with
  | some (.array len e),.agg cs => match szT P e with
   | some sz => cpick P e sz cs σ n 0 len
   | none => .leaf .fail
  | some .string,.str s => .req (0 <= n /\ n < s.size) (.leaf (.ok (.int .u8 (s.data.toList.getD n.toNat 0).toNat) σ))
  | _,_ => .leaf (.of σ (aindex P t x (.int k n)))
 | i => .leaf (.of σ (aindex P t x i))

theorem cindex_is {σ:State} {t:Nat} {x i:AV}:(cindex P σ t x i).Is (.of σ (aindex P t x i)):=by
 unfold cindex
 split
 ·rename_i k n
  split
  ·rename_i len e cs hu
   split
   ·rename_i sz hz
    refine cpick_is P len 0 (fun h1 h2 => ?_) (fun h => ?_)
    ·simp only [aindex,hu,hz]
     rw [if_pos ⟨by omega,by omega⟩]
    ·simp only [aindex,hu,hz]
     rw [if_neg (by omega)]; rfl
   ·rename_i hz
    simp only [aindex,hu,hz]
    exact .leaf _
  ·rename_i s hu
   refine .req fun hn => ?_
   have h3:n.toNat < s.data.toList.length:=by
    have:s.data.toList.length = s.size:=Array.length_toList
    omega
   have:aindex P t (.str s) (.int k n) = some (.int .u8 (s.data.toList.getD n.toNat 0).toNat):=by
    have h4:s.data.toList[n.toNat]? = some (s.data.toList.getD n.toNat 0):=by rw [List.getD,List.getElem?_eq_getElem h3]; rfl
    generalize s.data.toList.getD n.toNat 0 = b at h4
    simp only [aindex,hu]
    rw [if_pos hn.1,h4]
   rw [this]; exact .leaf _
  ·exact .leaf _
 ·exact .leaf _

def celems (σ:State) (k:Option Nat) (sz:Nat) (y:AV) (f:List AV -> CRes):CRes :=
 match y with
 | .rslice id off len => cobj h σ id fun ob => match ob with
  | .cells cs e s g => if s = sz /\ k.getD 1 = sz then .req ((off + len) * sz <= cs.length) (f (chunk k ((cs.drop (off * sz)).take (len * sz)) len)) else .leaf .fail
  | _ => .leaf .fail
 | .view id off len => cobj h σ id fun ob => match ob with
  | .cells cs e s g => if s = sz /\ k.getD 1 = sz then .req ((off + len) * sz <= cs.length) (f (chunk k ((cs.drop (off * sz)).take (len * sz)) len)) else .leaf .fail
  | _ => .leaf .fail
 | y => match aelems σ k sz y with
  | some ys => f ys
  | none => .leaf .fail

theorem celems_is {σ:State} {k:Option Nat} {sz:Nat} {y:AV} {f:List AV -> CRes} {r:Res} (hf:∀ ys,aelems σ k sz y = some ys -> (f ys).Is r) (hn:aelems σ k sz y = none -> r = .fail):(celems h σ k sz y f).Is r:=by
 unfold celems
 split
 ·rename_i id off len
  refine cobj_is ?_
  split
  ·rename_i cs e s g ho
   split
   ·rename_i hc
    refine .req fun hl => hf _ ?_
    simp only [aelems,ho]
    rw [if_pos ⟨hc.1,hc.2,hl⟩]
   ·rename_i hc
    rw [hn (by simp only [aelems,ho]; rw [if_neg fun h => hc ⟨h.1,h.2.1⟩])]
    exact .leaf _
  ·rename_i hne
   have:aelems σ k sz (.rslice id off len) = none:=by
    simp only [aelems]
    try (split <;> first | rfl | (rename_i h; exact absurd h (hne _ _ _ _)))
   rw [hn this]; exact .leaf _
 ·rename_i id off len
  refine cobj_is ?_
  split
  ·rename_i cs e s g ho
   split
   ·rename_i hc
    refine .req fun hl => hf _ ?_
    simp only [aelems,ho]
    rw [if_pos ⟨hc.1,hc.2,hl⟩]
   ·rename_i hc
    rw [hn (by simp only [aelems,ho]; rw [if_neg fun h => hc ⟨h.1,h.2.1⟩])]
    exact .leaf _
  ·rename_i hne
   have:aelems σ k sz (.view id off len) = none:=by
    simp only [aelems]
    try (split <;> first | rfl | (rename_i h; exact absurd h (hne _ _ _ _)))
   rw [hn this]; exact .leaf _
 ·split
  ·rename_i ys hy; exact hf _ hy
  ·rename_i hy; rw [hn hy]; exact .leaf _

def cappendTo (σ:State) (ann:Ann) (e sz by':Nat) (x:AV) (ys:List AV):CRes :=
 match x with
 | .nilslice => .req (ys.length * by' <= 140737488355328 /\ ys.length <= 4611686018427387904) (match annR ann with
  | .ref => .leaf (.ok (.rslice σ.next 0 ys.length) (σ.new (.cells (flat ys) e sz true)))
  | _ => .leaf (.ok (.slice sz ys (.tok σ.next)) (σ.new (.tok ys.length e sz))))
 | .slice s xs .full => if s = sz then .req ((xs.length + ys.length) * by' <= 140737488355328 /\ xs.length + ys.length <= 4611686018427387904) (match annR ann with
  | .ref => .leaf (.ok (.rslice σ.next 0 (xs ++ ys).length) (σ.new (.cells (flat (xs ++ ys)) e sz true)))
  | _ => .leaf (.ok (.slice sz (xs ++ ys) (.tok σ.next)) (σ.new (.tok (xs.length + ys.length) e sz)))) else .leaf .fail
 | .slice s xs (.tok id) => cobj h σ id fun ob => match ob with
  | .tok n e' s' => if s = sz /\ e' = e /\ s' = sz then .req (((xs.length + ys.length) * by' <= 140737488355328 /\ xs.length + ys.length <= 4611686018427387904) /\ n = xs.length)
    (.leaf (.ok (.slice sz (xs ++ ys) (.tok σ.next)) ((σ.set id .dead).new (.tok (xs.length + ys.length) e sz)))) else .leaf .fail
  | _ => .leaf .fail
 | .rslice id off len => match ann with
  | .off => cobj h σ id fun ob => match ob with
   | .cells cs e' s' g => if e' = e /\ s' = sz then .req (((len + ys.length) * by' <= 140737488355328 /\ len + ys.length <= 4611686018427387904) /\ (off + len) * sz <= cs.length)
     (.leaf (.both (.rslice σ.next off (len + ys.length)) ((σ.set id .dead).new (.cells (cs.take ((off + len) * sz) ++ flat ys) e sz true))
      (.rslice σ.next 0 (len + ys.length)) ((σ.set id .dead).new (.cells ((cs.drop (off * sz)).take (len * sz) ++ flat ys) e sz true)))) else .leaf .fail
   | _ => .leaf .fail
  | _ => cobj h σ id fun ob => match ob with
   | .cells cs e' s' g => if e' = e /\ s' = sz then .req (off = 0 /\ ((len + ys.length) * by' <= 140737488355328 /\ len + ys.length <= 4611686018427387904) /\ len * sz <= cs.length)
     (.leaf (.ok (.rslice σ.next 0 (len + ys.length)) ((σ.set id .dead).new (.cells (cs.take (len * sz) ++ flat ys) e sz true)))) else .leaf .fail
   | _ => .leaf .fail
 | _ => .leaf .fail

def cappend (σ:State) (ann:Ann) (t t':Nat) (x y:AV):CRes :=
 match y with
 | .int k l => .leaf (aappendZ P σ ann t t' x (.int k l))
 | y => match elT P t with
  | some e =>
   match szT P e,byT P e,zerT P e,kindT P e with
   | some sz,some by',some z,some k =>
    if t' = t then
     celems h σ k sz y fun ys => .br ys.isEmpty
      (match x with
       | .nilslice | .slice _ _ _ | .rslice _ _ _ => .leaf (.ok x σ)
       | _ => .leaf .fail)
      (if 0 < sz /\ z.cells.size = sz then cappendTo h σ ann e sz by' x ys else .leaf .fail)
    else .leaf .fail
   | _,_,_,_ => .leaf .fail
  | none => .leaf .fail

theorem cappend_is {σ:State} {ann:Ann} {t t':Nat} {x y:AV}:(cappend P h σ ann t t' x y).Is (aappendZ P σ ann t t' x y):=by
 unfold cappend
 split
 ·exact .leaf _
 rename_i y' hny
 have:aappendZ P σ ann t t' x y = aappend P σ ann t t' x y:=by
  unfold aappendZ
  split
  ·exact absurd rfl (hny _ _)
  ·rfl
 rw [this]
 unfold aappend
 split
 case h_2 he => simp only [he]; exact .leaf _
 rename_i e he
 simp only [he]
 split
 case h_2 =>
  rename_i hn
  split
  ·rename_i h1 h2 h3 h4; exact absurd h4 (hn _ _ _ _ h1 h2 h3)
  ·exact .leaf _
 rename_i sz by' z k hsz hby hz hk
 simp only [hsz,hby,hz,hk]
 split
 case isFalse h =>
  split
  ·exact .leaf _
  ·exact .leaf _
 case isTrue h =>
  subst h
  refine celems_is h (fun ys hy => ?_) (fun hy => by rw [hy])
  simp only [hy]
  simp only [ne_eq,not_true_eq_false,if_false]
  refine .br (fun hb => ?_) (fun hb => ?_)
  ·rw [if_pos hb]
   cases x <;> exact .leaf _
  ·simp only [hb,Bool.false_eq_true,if_false]
   split
   case isFalse => exact .leaf _
   rename_i hpos
   unfold cappendTo
   cases x with
   | nilslice =>
    dsimp only
    refine .req fun hc => ?_
    rw [if_pos hc]
    cases ann <;> exact .leaf _
   | slice s xs m =>
    cases m with
    | full =>
     dsimp only
     split
     ·rename_i hs
      refine .req fun hc => ?_
      rw [if_pos ⟨hs,hc⟩]
      cases ann <;> exact .leaf _
     ·rename_i hs
      rw [if_neg fun h => hs h.1]; exact .leaf _
    | tok id =>
     dsimp only
     refine cobj_is ?_
     split
     ·rename_i n e' s' ho
      split
      ·rename_i hs
       refine .req fun hc => ?_
       rw [if_pos ⟨hs.1,hc.1⟩]; simp only [ho]; rw [if_pos ⟨hc.2,hs.2⟩]; exact .leaf _
      ·rename_i hs
       split
       ·rename_i h1
        simp only [ho]; rw [if_neg fun h => hs ⟨h1.1,h.2⟩]; exact .leaf _
       ·exact .leaf _
     ·rename_i hne
      split
      ·split
       ·rename_i h; exact absurd h (hne _ _ _)
       ·exact .leaf _
      ·exact .leaf _
    | any => exact .leaf _
    | nn => exact .leaf _
   | rslice id off len =>
    cases ann with
    | off =>
     dsimp only
     refine cobj_is ?_
     split
     ·rename_i cs e' s' g ho
      split
      ·rename_i hs
       refine .req fun hc => ?_
       rw [if_pos hc.1]; simp only [ho]; rw [if_pos ⟨hs.1,hs.2,hc.2⟩]; exact .leaf _
      ·rename_i hs
       split
       ·simp only [ho]; rw [if_neg fun h => hs ⟨h.1,h.2.1⟩]; exact .leaf _
       ·exact .leaf _
     ·rename_i hne
      split
      ·split
       ·rename_i h; exact absurd h (hne _ _ _ _)
       ·exact .leaf _
      ·exact .leaf _
    | none =>
     dsimp only
     refine cobj_is ?_
     split
     ·rename_i cs e' s' g ho
      split
      ·rename_i hs
       refine .req fun hc => ?_
       rw [if_pos ⟨hc.1,hc.2.1⟩]; simp only [ho]; rw [if_pos ⟨hs.1,hs.2,hc.2.2⟩]; exact .leaf _
      ·rename_i hs
       split
       ·simp only [ho]; rw [if_neg fun h => hs ⟨h.1,h.2.1⟩]; exact .leaf _
       ·exact .leaf _
     ·rename_i hne
      split
      ·split
       ·rename_i h; exact absurd h (hne _ _ _ _)
       ·exact .leaf _
      ·exact .leaf _
    | ref =>
     dsimp only
     refine cobj_is ?_
     split
     ·rename_i cs e' s' g ho
      split
      ·rename_i hs
       refine .req fun hc => ?_
       rw [if_pos ⟨hc.1,hc.2.1⟩]; simp only [ho]; rw [if_pos ⟨hs.1,hs.2,hc.2.2⟩]; exact .leaf _
      ·rename_i hs
       split
       ·simp only [ho]; rw [if_neg fun h => hs ⟨h.1,h.2.1⟩]; exact .leaf _
       ·exact .leaf _
     ·rename_i hne
      split
      ·split
       ·rename_i h; exact absurd h (hne _ _ _ _)
       ·exact .leaf _
      ·exact .leaf _
    | frz =>
     dsimp only
     refine cobj_is ?_
     split
     ·rename_i cs e' s' g ho
      split
      ·rename_i hs
       refine .req fun hc => ?_
       rw [if_pos ⟨hc.1,hc.2.1⟩]; simp only [ho]; rw [if_pos ⟨hs.1,hs.2,hc.2.2⟩]; exact .leaf _
      ·rename_i hs
       split
       ·simp only [ho]; rw [if_neg fun h => hs ⟨h.1,h.2.1⟩]; exact .leaf _
       ·exact .leaf _
     ·rename_i hne
      split
      ·split
       ·rename_i h; exact absurd h (hne _ _ _ _)
       ·exact .leaf _
      ·exact .leaf _
   | _ => exact .leaf _

def cmake (σ:State) (t:Nat) (l c:AV):CRes :=
 match elT P t,l,c with
 | some e,.int _ l,.int _ c =>
  match szT P e,byT P e,zerT P e with
  | some sz,some by',some z =>
   if (av z).cells.length = sz /\ (av z).isUndef = false /\ (av z).cells.all AV.one = true /\ 0 < sz then
    .req (0 <= l /\ l <= c /\ (by':Int) * c <= 140737488355328 /\ c <= 4611686018427387904) (.leaf (.ok (.rslice σ.next 0 l.toNat) (σ.new (.cells (List.replicate c.toNat (av z).cells).flatten e sz false))))
   else .leaf .fail
  | _,_,_ => .leaf .fail
 | _,_,_ => .leaf .fail

theorem cmake_is {σ:State} {t:Nat} {l c:AV}:(cmake P σ t l c).Is (amake P σ t l c):=by
 unfold cmake
 split
 ·rename_i e kl l kc c he
  split
  ·rename_i sz by' z h1 h2 h3
   split
   ·rename_i hc
    refine .req fun h => ?_
    simp only [amake,he,h1,h2,h3]
    rw [if_pos ⟨h.1,h.2.1,h.2.2.1,h.2.2.2,hc.1,hc.2.1,hc.2.2.1,hc.2.2.2⟩]; exact .leaf _
   ·rename_i hc
    simp only [amake,he,h1,h2,h3]
    rw [if_neg fun h => hc ⟨h.2.2.2.2.1,h.2.2.2.2.2.1,h.2.2.2.2.2.2.1,h.2.2.2.2.2.2.2⟩]; exact .leaf _
  ·rename_i hne
   simp only [amake,he]
   exact .leaf _
 ·rename_i hne
  unfold amake
  split
  ·rename_i h1; exact absurd rfl (hne _ _ _ _ _ h1 rfl)
  ·exact .leaf _

def cfreeze (σ:State) (k:Option Nat) (x:AV):CRes :=
 match x with
 | .rslice id 0 len => cobj h σ id fun ob => match ob with
  | .cells cs e sz g => if k.getD 1 = sz /\ 0 < sz then .req (cs.length = len * sz) (.leaf (.ok (.slice sz (chunk k cs len) (.tok id)) (σ.set id (.tok len e sz)))) else .leaf .fail
  | _ => .leaf .fail
 | x => .leaf (afreeze σ k x)

theorem cfreeze_is {σ:State} {k:Option Nat} {x:AV}:(cfreeze h σ k x).Is (afreeze σ k x):=by
 unfold cfreeze
 split
 ·rename_i id len
  refine cobj_is ?_
  split
  ·rename_i cs e sz g ho
   simp only [afreeze,ho]
   split
   ·rename_i hc
    refine .req fun h => ?_
    rw [if_pos ⟨hc.1,hc.2,h⟩]; exact .leaf _
   ·rename_i hc
    rw [if_neg fun h => hc ⟨h.1,h.2.1⟩]; exact .leaf _
  ·rename_i hne
   have:afreeze σ k (.rslice id 0 len) = .fail:=by
    simp only [afreeze]
    try (split <;> first | rfl | (rename_i h; exact absurd h (hne _ _ _ _)))
   rw [this]; exact .leaf _
 ·exact .leaf _

def cnext (σ:State) (x:AV) (isS:Bool):CRes :=
 match x with
 | .ptr id 0 => match σ.objs id,isS with
  | .siter s pos,true => .br (decide (pos < s.size))
    (.leaf (.ok (.tuple [.bool true,.int .i64 pos,.int .i32 (Utf8.decode s pos).1]) (σ.set id (.siter s (pos + (Utf8.decode s pos).2)))))
    (.leaf (.ok (.tuple [.bool false]) σ))
  | _,_ => .leaf .fail
 | _ => .leaf .fail

def mlook (t:Nat) (es:List (AV × AV)) (key:AV) (ok:Bool):Option AV :=
 match amap P t with
 | some (k,e) =>
  if akeyOk P k key = true then
   match akey P k key es 0 with
   | some (some (_,v)) => some (if ok then .tuple [v,.bool true] else v)
   | some none => match zerT P e with
    | some z => some (if ok then .tuple [av z,.bool false] else av z)
    | none => none
   | none => none
  else none
 | none => none
def mset (t:Nat) (es:List (AV × AV)) (key v:AV):Option (List (AV × AV)) :=
 match amap P t with
 | some (k,_) =>
  if akeyOk P k key = true then
   match akey P k key es 0 with
   | some r => some (amapSet es key v r)
   | none => none
  else none
 | none => none
def MLook (t:Nat) (es:List (AV × AV)) (key:AV) (ok:Bool) (v:AV):Prop:=mlook P t es key ok = some v
def MSet (t:Nat) (es:List (AV × AV)) (key v:AV) (es':List (AV × AV)):Prop:=mset P t es key v = some es'

def clook (σ:State) (t:Nat) (x key:AV) (ok:Bool):CRes :=
 match h,x with
 | some o,.map id => cobj (some o) σ id fun ob => match ob with
  | .map es => .ex AV fun v => .req (MLook P t es key ok v) (.leaf (.ok v σ))
  | _ => .leaf (.of σ (alook P σ t (.map id) key ok))
 | _,x => .leaf (.of σ (alook P σ t x key ok))

theorem clook_is {σ:State} {t:Nat} {x key:AV} {ok:Bool}:(clook P h σ t x key ok).Is (.of σ (alook P σ t x key ok)):=by
 unfold clook
 split
 ·rename_i o id
  refine cobj_is ?_
  split
  ·rename_i es ho
   refine .ex fun v => .req fun hv => ?_
   have e:alook P σ t (.map id) key ok = some v:=by
    unfold MLook mlook at hv
    unfold alook acmapOf
    simp only [ho]
    unfold alookup amapOf
    simp only [ho]
    exact hv
   rw [e]; exact .leaf _
  ·exact .leaf _
 ·exact .leaf _

def cmset (σ:State) (t:Nat) (x key v:AV):CRes :=
 match h,x with
 | some o,.map id => cobj (some o) σ id fun ob => match ob with
  | .map es => .ex (List (AV × AV)) fun es' => .req (MSet P t es key v es') (.leaf (.ok .undef (σ.set id (.map es'))))
  | _ => .leaf (amapUpdate P σ t (.map id) key v)
 | _,x => .leaf (amapUpdate P σ t x key v)

theorem cmset_is {σ:State} {t:Nat} {x key v:AV}:(cmset P h σ t x key v).Is (amapUpdate P σ t x key v):=by
 unfold cmset
 split
 ·rename_i o id
  refine cobj_is ?_
  split
  ·rename_i es ho
   refine .ex fun es' => .req fun hv => ?_
   have e:amapUpdate P σ t (.map id) key v = .ok .undef (σ.set id (.map es')):=by
    unfold MSet mset at hv
    unfold amapUpdate
    split at hv
    ·rename_i k e hm
     simp only [hm,ho]
     split at hv
     ·rename_i hk
      rw [if_pos hk]
      split at hv
      ·rename_i r hr; simp only [hr]; cases hv; rfl
      ·cases hv
     ·cases hv
    ·cases hv
   rw [e]; exact .leaf _
  ·exact .leaf _
 ·exact .leaf _

def cop (ann:Ann) (o:Op) (ρ:Operand -> AV) (σ:State):CRes :=
 match o with
 | .load t x => cload P h σ t (ρ x)
 | .store t x v => cstore P h σ t (ρ x) (ρ v)
 | .binOp op t x y _ => cbin P σ op t (isConst x || isConst y) (ρ x) (ρ y)
 | .makeSlice t l c => cmake P σ t (ρ l) (ρ c)
 | .slice t x lo hi mx => cslice P h σ t (ρ x) (lo.map ρ) (hi.map ρ) (mx.map ρ)
 | .indexAddr t x i => cindexAddr P h σ t (ρ x) (ρ i)
 | .index t x i => cindex P σ t (ρ x) (ρ i)
 | .next x isS => cnext σ (ρ x) isS
 | .lookup t x k ok => clook P h σ t (ρ x) (ρ k) ok
 | .mapUpdate t m k x => cmset P h σ t (ρ m) (ρ k) (ρ x)
 | .call c => match c.callee with
  | .builtin .append => match c.argTypes.toList,c.args.toList.map ρ with
   | [t,t'],[x,y] => cappend P h σ ann t t' x y
   | _,_ => .leaf .fail
  | _ => .leaf (aop P ann (.call c) ρ σ)
 | o => .leaf (aop P ann o ρ σ)

theorem cop_is {ann:Ann} {o:Op} {ρ:Operand -> AV} {σ:State}:(cop P h ann o ρ σ).Is (aop P ann o ρ σ):=by
 unfold cop
 split
 ·exact cload_is P h
 ·exact cstore_is P h
 ·exact cbin_is P
 ·exact cmake_is P
 ·exact cslice_is P h
 ·exact cindexAddr_is P h
 ·exact cindex_is P
 ·rename_i x isS
  simp only [aop]
  generalize ρ x = y
  unfold cnext
  split
  ·rename_i id
   split
   ·rename_i s pos ho
    simp only [ho]
    refine .br (fun hb => ?_) (fun hb => ?_)
    ·have:pos < s.size:=by simpa using hb
     simp only [if_pos this]; exact .leaf _
    ·have:¬ pos < s.size:=by simpa using hb
     simp only [if_neg this]; exact .leaf _
   ·rename_i hne
    split
    ·rename_i h0
     cases h0
     split
     ·rename_i h1; exact absurd rfl (hne _ _ h1)
     ·exact .leaf _
    ·exact .leaf _
  ·rename_i hne
   split
   ·exact absurd rfl (hne _)
   ·exact .leaf _
 ·exact clook_is P h
 ·exact cmset_is P h
 ·rename_i c
  split
  ·rename_i hc
   simp only [aop,acall,hc]
   split
   ·rename_i t t' x y h1 h2
    simp only [h1,h2]
    exact cappend_is P h
   ·rename_i hne
    split
    ·rename_i h1 h2; exact absurd h2 (hne _ _ _ _ h1)
    ·exact .leaf _
  ·exact .leaf _
 ·exact .leaf _

def copF (sym:Bool) (ann:Ann) (o:Oper) (ρ:Operand -> AV) (σ:State):CRes :=
 match sym with
 | false => .leaf (aopF P ann o ρ σ)
 | true => (cop P h ann o.op ρ σ).bind fun r => match r with
  | .ok v σ' => (match ann with
   | .frz => match elT P o.type with
    | some e => match kindT P e with
     | some k => cfreeze h σ' k v
     | none => .leaf .fail
    | none => .leaf .fail
   | _ => .leaf (.ok v σ'))
  | r => .leaf r

theorem copF_is {sym:Bool} {ann:Ann} {o:Oper} {ρ:Operand -> AV} {σ:State}:(copF P h sym ann o ρ σ).Is (aopF P ann o ρ σ):=by
 unfold copF
 split
 ·exact .leaf _
 ·refine .bind (cop_is P h) ?_
  unfold aopF
  cases hr:aop P ann o.op ρ σ with
  | ok v σ' =>
   dsimp only
   cases ann with
   | none => exact .leaf _
   | ref => exact .leaf _
   | off => exact .leaf _
   | frz =>
    simp only [if_true]
    cases he:elT P o.type with
    | none => exact .leaf _
    | some e =>
     dsimp only
     cases hk:kindT P e with
     | none => exact .leaf _
     | some k => exact cfreeze_is h
  | call f args => exact .leaf _
  | fail => exact .leaf _
  | both v1 σ1 v2 σ2 => exact .leaf _

end
end Go.V
/- The W-layer, part 2: the condition of a code on values that are not known whole, for the kernel to compute; contracts, loops with invariants. -/
namespace Go.V
open Go.RowKit

structure Hint:Type 1 where
 sym:Bool
 cast:Option ((α:Type) × (α -> AV))
 obj:OH
 nil:Bool

def Hint.no:Hint:=⟨false,none,none,false⟩
def Hint.s:Hint:=⟨true,none,none,false⟩
def Hint.as {α:Type} (f:α -> AV):Hint:=⟨true,some ⟨α,f⟩,none,false⟩
def Hint.of {α:Type} (f:α -> AObj):Hint:=⟨true,none,some ⟨α,f⟩,false⟩
def Hint.ofAs {α β:Type} (f:α -> AObj) (v:β -> AV):Hint:=⟨true,some ⟨β,v⟩,some ⟨α,f⟩,false⟩
def Hint.ofNil {α β:Type} (f:α -> AObj) (v:β -> AV):Hint:=⟨true,some ⟨β,v⟩,some ⟨α,f⟩,true⟩

def castP (c:Option ((α:Type) × (α -> AV))) (nil:Bool) (v:AV) (k:AV -> Prop):Prop :=
 match c with
 | none => k v
 | some ⟨α,f⟩ => match nil with
  | false => ∃ x:α,v = f x /\ k (f x)
  | true => (v = .nilslice /\ k .nilslice) \/ ∃ x:α,v = f x /\ k (f x)

theorem castP_ok {c:Option ((α:Type) × (α -> AV))} {nil:Bool} {v:AV} {k:AV -> Prop} (h:castP c nil v k):k v:=by
 unfold castP at h
 split at h
 ·exact h
 ·split at h
  ·obtain ⟨x,rfl,h⟩:=h; exact h
  ·rcases h with ⟨rfl,h⟩ | ⟨x,rfl,h⟩ <;> exact h

abbrev FnHint:=Nat -> Nat -> Hint

section
variable (E:Env) (H:Hand)

def genC (hn:Hint) (ann:Ann) (o:Oper) (K:Next') (a:AAct) (σ:State):Prop :=
 (copF E.P hn.obj hn.sym ann o (aval E.G a.low) σ).post fun r => match r with
  | .ok v σ' => castP hn.cast hn.nil v fun v => K (a.put o.dst (.v v)) σ'
  | .call f args => H f args σ fun v σ' => castP hn.cast hn.nil v fun v => K (a.put o.dst (.v v)) σ'
  | .fail => False
  | .both v1 σ1 v2 σ2 => K (a.put o.dst (.v v1)) σ1 /\ K (a.put o.dst (.v v2)) σ2

def newC (ann:Ann) (o:Oper) (cs:List AV) (K:Next') (gen:Prop) (a:AAct) (σ:State):Prop :=
 match ann,o.dst with
 | .none,some d => match cs.all AV.one with
  | true => K (a.newL d cs) σ
  | false => False
 | _,_ => gen

def pickL (P:Program) (t:Nat) (cs:List AV) (off:Nat) (k:AV -> Prop):Nat -> Nat -> Prop
 | _,0 => False
 | j,m + 1 => bcase (decide (off = j)) (match apart P t cs j with
  | some v => k v
  | none => False) (pickL P t cs off k (j + 1) m)

theorem pickL_ok {P:Program} {t:Nat} {cs:List AV} {off:Nat} {k:AV -> Prop}:∀ (m j:Nat),pickL P t cs off k j m -> ∃ v,apart P t cs off = some v /\ k v
 | 0,j,h => h.elim
 | m + 1,j,h => by
  unfold pickL at h
  cases hb:decide (off = j) with
  | true =>
   rw [hb] at h
   have e:off = j:=by simpa using hb
   subst e
   simp only [bcase] at h
   split at h
   ·rename_i v hv; exact ⟨v,hv,h⟩
   ·exact h.elim
  | false => rw [hb] at h; exact pickL_ok m (j + 1) h

def goC (hn:Hint) (ann:Ann) (o:Oper) (K:Next') (a:AAct) (σ:State):Prop :=
 match o.op with
 | .alloc e => match zerT E.P e with
  | some z => newC ann o (av z).cells K (genC E H hn ann o K a σ) a σ
  | none => False
 | .box e x => match tval E.G a x with
  | .v v => newC ann o v.cells K (genC E H hn ann o K a σ) a σ
  | .l _ _ => False
 | .load t x => match tval E.G a x with
  | .l k off => match hn.sym with
   | true => pickL E.P t (a.l k) off (fun v => castP hn.cast hn.nil v fun v => K (a.put o.dst (.v v)) σ) 0 (a.l k).length
   | false => match apart E.P t (a.l k) off with
    | some v => castP hn.cast hn.nil v fun v => K (a.put o.dst (.v v)) σ
    | none => False
  | .v _ => genC E H hn ann o K a σ
 | .store t x v => match tval E.G a x with
  | .l k off =>
   match !(tval E.G a v).low.isUndef && (decide (szT E.P t = some (tval E.G a v).low.cells.length) && ((tval E.G a v).low.cells.all AV.one && (Nat.ble (off + (tval E.G a v).low.cells.length) (a.l k).length && o.dst.isNone))) with
   | true => K (a.setL k (asplice (a.l k) off (tval E.G a v).low.cells)) σ
   | false => False
  | .v _ => genC E H hn ann o K a σ
 | .fieldAddr s x f => match tval E.G a x with
  | .l k off => match fldT E.P s f with
   | some (_,p,m) => match Nat.beq m 0 with
    | true => False
    | false => K (a.put o.dst (.l k (off + p))) σ
   | none => False
  | .v _ => genC E H hn ann o K a σ
 | .indexAddr t x i => match tval E.G a x with
  | .l k off => match tval E.G a i,arrT E.P t with
   | .v (.int _ j),some (len,e) => match szT E.P e with
    | some sz => match hn.sym with
     | true => 0 <= j /\ j < len /\ K (a.put o.dst (.l k (off + j.toNat * sz))) σ
     | false => match decide (0 <= j) && decide (j < len) with
      | true => K (a.put o.dst (.l k (off + j.toNat * sz))) σ
      | false => False
    | none => False
   | _,_ => False
  | .v _ => genC E H hn ann o K a σ
 | .nilCheck x => match tval E.G a x with
  | .l k off => K (a.put o.dst (.l k off)) σ
  | .v _ => genC E H hn ann o K a σ
 | .move x => match tval E.G a x with
  | .l k off => K (a.put o.dst (.l k off)) σ
  | .v _ => genC E H hn ann o K a σ
 | .assign x => match tval E.G a x with
  | .l k off => K (a.put o.dst (.l k off)) σ
  | .v _ => genC E H hn ann o K a σ
 | _ => genC E H hn ann o K a σ

def stepC (hn:Hint) (ann:Ann) (ops:Array Oper) (o:Oper) (K:Next') (a:AAct) (σ:State):Prop :=
 match o.guard with
 | none => goC E H hn ann o K a σ
 | some (j,want) => match (ops[j]?).bind (·.dst) with
  | none => K (a.put o.dst (.v (.tuple []))) σ
  | some d => match (a.t d).low with
   | .bool b => bcase b
     (match want with | true => goC E H hn ann o K (a.setB d true) σ | false => K ((a.setB d true).put o.dst (.v (.tuple []))) σ)
     (match want with | true => K ((a.setB d false).put o.dst (.v (.tuple []))) σ | false => goC E H hn ann o K (a.setB d false) σ)
   | .undef => False
   | _ => K (a.put o.dst (.v (.tuple []))) σ

def opsC (an:FnAnn) (hs:FnHint) (id:Nat) (ops:Array Oper):List Oper -> Nat -> Next' -> AAct -> State -> Prop
 | [],_,K,a,σ => K a σ
 | o :: l,i,K,a,σ => stepC E H (hs id i) (an.ann id i) ops o (fun a σ => opsC an hs id ops l (i + 1) K a σ) a σ

def runC (an:FnAnn) (hs:FnHint) (id:Nat) (ops:Array Oper):List (Oper × Nat) -> Next' -> AAct -> State -> Prop
 | [],K,a,σ => K a σ
 | (o,i) :: r,K,a,σ => match plainA (an.ann id i) && stillOp o.op with
  | true => stepC E H (hs id i) .none ops o (fun a' σ' => runC an hs id ops r K a' σ) a σ
  | false => False

def sameAtC (dst:Option Tmp) (a' a:AAct):Prop :=
 match dst with
 | some d => a'.t d = a.t d
 | none => True

def checkC (an:FnAnn) (hs:FnHint) (id:Nat) (ops:Array Oper):List (Oper × Nat) -> AAct -> State -> Prop -> Prop
 | [],a,σ,R => R
 | (o,i) :: r,a,σ,R => match plainA (an.ann id i) && stillOp o.op with
  | true => stepC E H (hs id i) .none ops o (fun a' σ' => sameAtC o.dst a' a) a σ /\ checkC an hs id ops r a σ R
  | false => False

end
def clash (ops:Array Oper) (x y:Oper × Nat):Bool :=
 match y.1.dst with
 | some d => (x.1.looksAt ops).contains d || (match x.1.dst with
  | some e => Nat.beq e d
  | none => false)
 | none => false
def ownClash (ops:Array Oper) (x:Oper × Nat):Bool :=
 match x.1.dst with
 | some d => (x.1.looksAt ops).contains d
 | none => false
def settled (ops:Array Oper):List (Oper × Nat) -> Bool
 | [] => true
 | x :: r => !ownClash ops x && (r.all (fun y => !clash ops x y) && settled ops r)

section
variable (E:Env) (H:Hand)
def allC {α:Type} (p:α -> Prop):List α -> Prop
 | [] => True
 | [x] => p x
 | x :: r => p x /\ allC p r

def drawC (an:FnAnn) (hs:FnHint) (id:Nat) (ops:Array Oper) (anc eff:List Nat):Nat -> List Nat -> Next' -> AAct -> State -> Prop
 | 0,_,_,_,_ => False
 | f + 1,done,K,a,σ => match settled ops (ops.toList.zipIdx.filter (newly anc eff done)) && (ops.toList.zipIdx.filter (newly anc eff done)).all (fun x => pureOp x.1) with
  | true => runC E H an hs id ops (ops.toList.zipIdx.filter (newly anc eff done)) (fun a' σ' =>
   checkC E H an hs id ops (ops.toList.zipIdx.filter (fun x => alive anc eff done x && !newly anc eff done x)) a' σ'
   (match eff.all (done.contains ·) with
    | true => K a' σ'
    | false => allC (fun (oi:Oper × Nat) => stepC E H (hs id oi.2) (an.ann id oi.2) ops oi.1 (fun a'' σ'' => drawC an hs id ops anc eff f (oi.2 :: done) K a'' σ'') a' σ') (ops.toList.zipIdx.filter (avail anc eff done)))) a σ
  | false => False

def wpC (L:LHand) (an:FnAnn) (hs:FnHint):Code -> Post -> AAct -> State -> Prop
 | .skip,Q,a,σ => Q .normal a σ
 | .region id ops false,Q,a,σ => opsC E H an hs id ops ops.toList 0 (Q .normal) a σ
 | .region id ops true,Q,a,σ => drawC E H an hs id ops (ancOf ops) (an.eff id) ((an.eff id).length + 1) [] (Q .normal) a σ
 | .seq x y,Q,a,σ => wpC L an hs x (fun e a σ => match e with | .normal => wpC L an hs y Q a σ | e => Q e a σ) a σ
 | .cond c x y,Q,a,σ => match (tval E.G a c).low with
  | .bool b => bcase b (wpC L an hs x Q (a.setC c true) σ) (wpC L an hs y Q (a.setC c false) σ)
  | _ => False
 | .block id c,Q,a,σ => wpC L an hs c (fun e a σ => match e with | .exit id' => (match Nat.beq id' id with | true => Q .normal a σ | false => Q (.exit id') a σ) | e => Q e a σ) a σ
 | .loop c,Q,a,σ => L (.loop c) Q a σ
 | .rangeFunc f ps x y,Q,a,σ => L (.rangeFunc f ps x y) Q a σ
 | .exit id,Q,a,σ => Q (.exit id) a σ
 | .ret,Q,a,σ => Q .ret a σ
 | _,_,_,_ => False
end

def loopsIn:Code -> List Code
 | .seq a b => loopsIn a ++ loopsIn b
 | .cond _ a b => loopsIn a ++ loopsIn b
 | .block _ c => loopsIn c
 | .loop c => [.loop c]
 | .rangeFunc f ps x y => [.rangeFunc f ps x y]
 | _ => []

def HOk1 (E:Env) (H:Hand):Prop:=∀ t args σ Q,H t args σ Q -> selfH E t args σ Q


/-! An operation that has just been run needs no second run. -/
section
variable {E:Env} {H:Hand} {σ:State} {a:AAct} {an:FnAnn} {ann:Ann} {o:Oper} {K:Next'} {ops:Array Oper}

theorem aop_both_next {P:Program} {ann:Ann} {o:Oper} {ρ:Operand -> AV} {σ σ1 σ2:State} {v1 v2:AV} (h:aopF P ann o ρ σ = .both v1 σ1 v2 σ2):σ1.next = σ.next + 1:=by
 have hof:∀ (x:Option AV),Res.of σ x ≠ .both v1 σ1 v2 σ2:=fun x => by cases x <;> simp [Res.of]
 have key:aop P ann o.op ρ σ = .both v1 σ1 v2 σ2 -> σ1.next = σ.next + 1:=by
  clear h
  obtain ⟨dst,op,type,pos,after,guard⟩:=o
  intro h
  cases op <;> simp only [aop] at h
  case call c =>
   unfold acall at h
   cases hc:c.callee with
   | builtin b =>
    rw [hc] at h
    cases b <;> simp only at h <;> try (cases h; done)
    case len => split at h <;> (try split at h) <;> cases h
    case append =>
     split at h
     ·unfold aappendZ at h
      split at h
      ·unfold azeros at h
       repeat' (split at h <;> try (cases h; done))
      unfold aappend at h
      repeat' (split at h <;> try (first | (cases h; done) | (cases h; rfl)))
     ·cases h
    case max => split at h <;> (try split at h) <;> cases h
    case cap => split at h <;> (try split at h) <;> cases h
    case min => split at h <;> (try split at h) <;> cases h
   | _ => rw [hc] at h; simp only at h; first | (cases h; done) | (repeat' (split at h <;> try (cases h; done)))
  case makeMap t r => cases r <;> simp only at h <;> cases h
  case range t x => split at h <;> cases h
  case next x b => repeat' (split at h <;> try (cases h; done))
  all_goals first | exact (hof _ h).elim | (unfold astore at h; repeat' (split at h <;> try (cases h; done))) | (unfold abuildSlice at h; repeat' (split at h <;> try (cases h; done))) | (unfold amake at h; repeat' (split at h <;> try (cases h; done))) | (unfold amapUpdate at h; repeat' (split at h <;> try (cases h; done))) | (unfold anew at h; repeat' (split at h <;> try (cases h; done))) | (cases h; done) | (repeat' (split at h <;> try (first | (cases h; done) | (unfold anew at h; split at h <;> cases h))))
 unfold aopF at h
 split at h
 ·split at h
  ·split at h
   ·split at h
    ·unfold afreeze at h
     repeat' (split at h <;> try (cases h; done))
    ·cases h
   ·cases h
  ·cases h
 ·exact key h

theorem genS_det (hp:pureOp o = true) (hK:∀ a' σ',K a' σ' -> σ' = σ) (k:genS E H ann o K a σ):∃ v σ',K (a.put o.dst v) σ' /\ ∀ K':Next',K' (a.put o.dst v) σ' -> genS E H ann o K' a σ:=by
 unfold genS at k
 split at k
 ·rename_i hr
  exact ⟨_,_,k,fun K' k' => by unfold genS; rw [hr]; exact k'⟩
 ·rename_i hr; exact (aop_nocall hp hr).elim
 ·exact k.elim
 ·rename_i hr
  have h1:=aop_both_next hr
  rw [hK _ _ k.1] at h1
  exact absurd h1 (by omega)

theorem goS_det (hp:pureOp o = true) (hK:∀ a' σ',K a' σ' -> σ' = σ) (k:goS E H ann o K a σ):∃ v σ',K (a.put o.dst v) σ' /\ ∀ K':Next',K' (a.put o.dst v) σ' -> goS E H ann o K' a σ:=by
 have hg:genS E H ann o K a σ -> ∃ v σ',K (a.put o.dst v) σ' /\ ∀ K':Next',K' (a.put o.dst v) σ' -> genS E H ann o K' a σ:=genS_det hp hK
 have lift:(∃ v σ',K (a.put o.dst v) σ' /\ ∀ K':Next',K' (a.put o.dst v) σ' -> genS E H ann o K' a σ) -> (∀ K':Next',genS E H ann o K' a σ -> goS E H ann o K' a σ) -> ∃ v σ',K (a.put o.dst v) σ' /\ ∀ K':Next',K' (a.put o.dst v) σ' -> goS E H ann o K' a σ :=
  fun ⟨v,σ',h1,h2⟩ h3 => ⟨v,σ',h1,fun K' k' => h3 _ (h2 _ k')⟩
 unfold goS at k
 cases ho:o.op with
 | alloc e => simp [pureOp,ho] at hp
 | box e x => simp [pureOp,ho] at hp
 | store t x v => simp [pureOp,ho] at hp
 | load t x =>
  simp only [ho] at k
  split at k
  ·rename_i hz
   split at k
   ·rename_i hw; exact ⟨_,_,k,fun K' k' => by unfold goS; simp only [ho,hz,hw]; exact k'⟩
   ·exact k.elim
  ·rename_i hz; exact lift (hg k) fun K' k' => by unfold goS; simp only [ho,hz]; exact k'
 | fieldAddr s x f =>
  simp only [ho] at k
  split at k
  ·rename_i hz
   split at k
   ·rename_i hw
    split at k
    ·exact k.elim
    ·rename_i hm; exact ⟨_,_,k,fun K' k' => by unfold goS; simp only [ho,hz,hw,hm,if_false]; exact k'⟩
   ·exact k.elim
  ·rename_i hz; exact lift (hg k) fun K' k' => by unfold goS; simp only [ho,hz]; exact k'
 | indexAddr t x i =>
  simp only [ho] at k
  split at k
  ·rename_i hz
   split at k
   ·rename_i h1 h2
    split at k
    ·rename_i h3; exact ⟨_,_,k.2.2,fun K' k' => by unfold goS; simp only [ho,hz,h1,h2,h3]; exact ⟨k.1,k.2.1,k'⟩⟩
    ·exact k.elim
   ·exact k.elim
  ·rename_i hz; exact lift (hg k) fun K' k' => by unfold goS; simp only [ho,hz]; exact k'
 | nilCheck x =>
  simp only [ho] at k
  split at k <;> rename_i hz
  ·exact ⟨_,_,k,fun K' k' => by unfold goS; simp only [ho,hz]; exact k'⟩
  ·exact lift (hg k) fun K' k' => by unfold goS; simp only [ho,hz]; exact k'
 | move x =>
  simp only [ho] at k
  split at k <;> rename_i hz
  ·exact ⟨_,_,k,fun K' k' => by unfold goS; simp only [ho,hz]; exact k'⟩
  ·exact lift (hg k) fun K' k' => by unfold goS; simp only [ho,hz]; exact k'
 | assign x =>
  simp only [ho] at k
  split at k <;> rename_i hz
  ·exact ⟨_,_,k,fun K' k' => by unfold goS; simp only [ho,hz]; exact k'⟩
  ·exact lift (hg k) fun K' k' => by unfold goS; simp only [ho,hz]; exact k'
 | _ => simp only [ho] at k; exact lift (hg k) fun K' k' => by unfold goS; simp only [ho]; exact k'

theorem stepS_det (hp:pureOp o = true) (hK:∀ a' σ',K a' σ' -> σ' = σ) (k:stepS E H ann ops o K a σ):∃ v σ',K (a.put o.dst v) σ' /\ ∀ K':Next',K' (a.put o.dst v) σ' -> stepS E H ann ops o K' a σ:=by
 have lift:(∃ v σ',K (a.put o.dst v) σ' /\ ∀ K':Next',K' (a.put o.dst v) σ' -> goS E H ann o K' a σ) -> (∀ K':Next',goS E H ann o K' a σ -> stepS E H ann ops o K' a σ) -> ∃ v σ',K (a.put o.dst v) σ' /\ ∀ K':Next',K' (a.put o.dst v) σ' -> stepS E H ann ops o K' a σ :=
  fun ⟨v,σ',h1,h2⟩ h3 => ⟨v,σ',h1,fun K' k' => h3 _ (h2 _ k')⟩
 unfold stepS at k
 split at k
 ·rename_i hg; exact lift (goS_det hp hK k) fun K' k' => by unfold stepS; simp only [hg]; exact k'
 ·rename_i j want hg
  split at k
  ·rename_i hd; exact ⟨_,_,k,fun K' k' => by unfold stepS; simp only [hg,hd]; exact k'⟩
  ·rename_i d hd
   split at k
   ·rename_i b hb
    cases b
    ·rw [setB_same hb] at k
     simp only [bcase] at k
     split at k
     ·rename_i hw; exact ⟨_,_,k,fun K' k' => by unfold stepS; simp only [hg,hd,hb,bcase,hw,if_true]; rw [setB_same hb]; exact k'⟩
     ·rename_i hw; exact lift (goS_det hp hK k) fun K' k' => by unfold stepS; simp only [hg,hd,hb,bcase,hw,if_false]; rw [setB_same hb]; exact k'
    ·rw [setB_same hb] at k
     simp only [bcase] at k
     split at k
     ·rename_i hw; exact lift (goS_det hp hK k) fun K' k' => by unfold stepS; simp only [hg,hd,hb,bcase,hw,if_true]; rw [setB_same hb]; exact k'
     ·rename_i hw; exact ⟨_,_,k,fun K' k' => by unfold stepS; simp only [hg,hd,hb,bcase,hw,if_false]; rw [setB_same hb]; exact k'⟩
   ·exact k.elim
   ·rename_i h1 h2
    refine ⟨_,_,k,fun K' k' => ?_⟩
    unfold stepS
    simp only [hg,hd]
    exact k'

def chk (E:Env) (H:Hand) (an:FnAnn) (id:Nat) (ops:Array Oper) (x:Oper × Nat) (a:AAct) (σ:State):Prop :=
 stepS E H (an.ann id x.2) ops x.1 (fun a' σ' => σ' = σ /\ sameAt x.1.dst a' a) a σ

theorem put_ne (a:AAct) {dst:Option Tmp} (v:TV) {t:Nat} (h:dst ≠ some t):(a.put dst v).t t = a.t t:=by
 cases dst with
 | none => rfl
 | some d =>
  show (if t = d then v else a.t t) = a.t t
  rw [if_neg]; rintro rfl; exact h rfl

theorem agree_put (a:AAct) (dst:Option Tmp) (v:TV):Agree (fun t => dst = some t) a (a.put dst v) :=
 ⟨by cases dst <;> rfl,fun t ht => put_ne a v ht⟩

theorem chk_put (hH:HOk E H) {id:Nat} {x y:Oper × Nat} {v:TV} (hc:clash ops y x = false) (h:chk E H an id ops y a σ):chk E H an id ops y (a.put x.1.dst v) σ:=by
 have hc1:∀ t ∈ y.1.looksAt ops,¬ x.1.dst = some t:=by
  intro t ht e
  unfold clash at hc
  rw [e] at hc
  simp only [Bool.or_eq_false_iff] at hc
  have:(y.1.looksAt ops).contains t = true:=by simpa using ht
  rw [this] at hc; cases hc.1
 have hc2:∀ t,y.1.dst = some t -> ¬ x.1.dst = some t:=by
  intro t ht e
  unfold clash at hc
  rw [e,ht] at hc
  simp at hc
 unfold chk at *
 refine stepS_rel hH (agree_put a x.1.dst v) hc1 (fun a' a1' σ' hu k => ⟨k.1,?_⟩) h
 have k2:=k.2
 unfold sameAt at *
 split
 ·rename_i d hd
  rw [hd] at k2
  dsimp only at k2
  rw [hu.t d (.inr hd),k2,put_ne a v (hc2 d hd)]
 ·trivial

theorem run_settled (hH:HOk E H) {id:Nat}:∀ (l p:List (Oper × Nat)) (K:Next') (a:AAct),(∀ x ∈ l,pureOp x.1 = true) -> settled ops l = true -> (∀ y ∈ p,chk E H an id ops y a σ) -> (∀ y ∈ p,∀ x ∈ l,clash ops y x = false) ->
  runN E H an id ops l K a σ -> runN E H an id ops l (fun a' σ' => (∀ y,y ∈ p \/ y ∈ l -> chk E H an id ops y a' σ) /\ K a' σ') a σ
 | [],p,K,a,_,_,hp,_,k => by
  refine ⟨fun y hy => ?_,k⟩
  rcases hy with hy | hy
  ·exact hp y hy
  ·cases hy
 | (o,i) :: l,p,K,a,hpu,hs,hp,hc,k => by
  unfold runN at k ⊢
  obtain ⟨v,σ1,⟨e,k1⟩,k2⟩:=stepS_det (hpu (o,i) (by simp)) (fun _ _ k => k.1) k
  rw [e] at k2
  simp only [settled,Bool.and_eq_true,Bool.not_eq_true',List.all_eq_true] at hs
  have hA:∀ y ∈ (o,i) :: p,chk E H an id ops y (a.put o.dst v) σ:=by
   intro y hy
   rcases List.mem_cons.1 hy with rfl | hy
   ·have hown:∀ t ∈ o.looksAt ops,¬ o.dst = some t:=by
     intro t ht e
     have:=hs.1
     unfold ownClash at this
     rw [e] at this
     have hk:(o.looksAt ops).contains t = true:=by simpa using ht
     simp only at this
     rw [hk] at this; cases this
    have h1:stepS E H (an.ann id i) ops o (fun a' σ' => σ' = σ /\ a' = a.put o.dst v) a σ:=k2 _ ⟨rfl,rfl⟩
    refine stepS_rel hH (agree_put a o.dst v) hown (fun a' a1' σ' hu k => ⟨k.1,?_⟩) h1
    unfold sameAt
    split
    ·rename_i d hd
     rw [hu.t d (.inr hd),k.2]
    ·trivial
   ·exact chk_put (x:=(o,i)) hH (hc y hy (o,i) (by simp)) (hp y hy)
  have hB:∀ y ∈ (o,i) :: p,∀ x ∈ l,clash ops y x = false:=by
   intro y hy x hx
   rcases List.mem_cons.1 hy with rfl | hy
   ·exact hs.2.1 x hx
   ·exact hc y hy x (by simp [hx])
  have hC:=run_settled hH l ((o,i) :: p) K (a.put o.dst v) (fun x hx => hpu x (by simp [hx])) hs.2.2 hA hB k1
  refine k2 _ ⟨rfl,runN_mono hH (fun a σ k => ⟨fun y hy => k.1 y ?_,k.2⟩) _ _ _ hC⟩
  rcases hy with hy | hy
  ·exact .inl (List.mem_cons_of_mem _ hy)
  ·rcases List.mem_cons.1 hy with rfl | hy
   ·exact .inl (by simp)
   ·exact .inr hy
end

section
variable {E:Env} {H:Hand} {rd:Option Nat} {n:Nat} {σ:State} {a:AAct} {an:FnAnn} {hs:FnHint} {hn:Hint} {ann:Ann} {o:Oper} {K:Next'} {ops:Array Oper}

theorem genC_ok (hH:HOk1 E H) (h:genC E H hn ann o K a σ):genS E (selfH E) ann o K a σ:=by
 unfold genC at h
 have h:=copF_is E.P hn.obj _ h
 unfold genS
 split
 ·rename_i hr; rw [hr] at h; exact castP_ok h
 ·rename_i hr; rw [hr] at h; exact (hok_self E).mono _ _ _ _ _ (fun v σ' k => castP_ok k) (hH _ _ _ _ h)
 ·rename_i hr; rw [hr] at h; exact h
 ·rename_i hr; rw [hr] at h; exact h

theorem newC_ok {cs:List AV} {gen gen':Prop} (hg:gen -> gen') (h:newC ann o cs K gen a σ):newS ann o cs K gen' a σ:=by
 unfold newC at h
 unfold newS
 split
 ·rename_i d hd
  simp only [hd] at h
  split at h
  ·rename_i ho; exact ⟨ho,h⟩
  ·exact h.elim
 ·rename_i hne
  split at h
  ·rename_i d hd; exact absurd hd (hne d rfl)
  ·exact hg h

theorem goC_ok (hH:HOk1 E H) (k:goC E H hn ann o K a σ):goS E (selfH E) ann o K a σ:=by
 have hg:genC E H hn ann o K a σ -> genS E (selfH E) ann o K a σ:=genC_ok hH
 unfold goC at k
 unfold goS
 cases ho:o.op with
 | alloc e =>
  simp only [ho] at k ⊢
  split
  ·rename_i z hz; simp only [hz] at k; exact newC_ok hg k
  ·rename_i hz; simp only [hz] at k
 | box e x =>
  simp only [ho] at k ⊢
  split
  ·rename_i v hz; simp only [hz] at k; exact newC_ok hg k
  ·rename_i hz; simp only [hz] at k
 | load t x =>
  simp only [ho] at k ⊢
  split
  ·rename_i hz; simp only [hz] at k
   split at k
   ·obtain ⟨v,hv,k⟩:=pickL_ok _ _ k
    rw [hv]; exact castP_ok k
   ·split
    ·rename_i v hw; simp only [hw] at k; exact castP_ok k
    ·rename_i hw; simp only [hw] at k
  ·rename_i hz; simp only [hz] at k; exact hg k
 | store t x v =>
  simp only [ho] at k ⊢
  split
  ·rename_i hz; simp only [hz] at k
   split at k
   ·rename_i hc
    simp only [Bool.and_eq_true,Bool.not_eq_true',decide_eq_true_eq,Option.isNone_iff_eq_none] at hc
    exact ⟨hc.1,hc.2.1,hc.2.2.1,Nat.le_of_ble_eq_true hc.2.2.2.1,hc.2.2.2.2,k⟩
   ·exact k.elim
  ·rename_i hz; simp only [hz] at k; exact hg k
 | fieldAddr s x f =>
  simp only [ho] at k ⊢
  split
  ·rename_i hz; simp only [hz] at k
   split
   ·rename_i hw; simp only [hw] at k
    split at k
    ·exact k.elim
    ·rename_i hm
     rw [if_neg (by rintro rfl; simp at hm)]
     exact k
   ·rename_i hw; simp only [hw] at k
  ·rename_i hz; simp only [hz] at k; exact hg k
 | indexAddr t x i =>
  simp only [ho] at k ⊢
  split
  ·rename_i hz; simp only [hz] at k
   split
   ·rename_i h1 h2; simp only [h1,h2] at k
    split
    ·rename_i h3; simp only [h3] at k
     split at k
     ·exact k
     ·split at k
      ·rename_i hc
       simp only [Bool.and_eq_true,decide_eq_true_eq] at hc
       exact ⟨hc.1,hc.2,k⟩
      ·exact k.elim
    ·rename_i h3; simp only [h3] at k
   ·rename_i h1
    split at k
    ·rename_i h2 h3; exact absurd h3 (h1 _ _ _ _ h2)
    ·exact k
  ·rename_i hz; simp only [hz] at k; exact hg k
 | nilCheck x =>
  simp only [ho] at k ⊢
  split
  ·rename_i hz; simp only [hz] at k; exact k
  ·rename_i hz; simp only [hz] at k; exact hg k
 | move x =>
  simp only [ho] at k ⊢
  split
  ·rename_i hz; simp only [hz] at k; exact k
  ·rename_i hz; simp only [hz] at k; exact hg k
 | assign x =>
  simp only [ho] at k ⊢
  split
  ·rename_i hz; simp only [hz] at k; exact k
  ·rename_i hz; simp only [hz] at k; exact hg k
 | _ => simp only [ho] at k ⊢; exact hg k

theorem stepC_ok (hH:HOk1 E H) (k:stepC E H hn ann ops o K a σ):stepS E (selfH E) ann ops o K a σ:=by
 unfold stepC at k
 unfold stepS
 split
 ·rename_i hg; simp only [hg] at k; exact goC_ok hH k
 ·rename_i j want hg
  simp only [hg] at k
  split
  ·rename_i hd; simp only [hd] at k; exact k
  ·rename_i d hd
   simp only [hd] at k
   split
   ·rename_i b hb
    simp only [hb] at k
    cases b <;> cases want <;> simp only [bcase,Bool.false_eq_true,if_true,if_false] at k ⊢ <;> first | exact goC_ok hH k | exact k
   ·rename_i hb; simp only [hb] at k
   ·rename_i h1 h2
    split at k
    ·rename_i b hb; exact absurd hb (h1 b)
    ·exact k.elim
    ·exact k

theorem opsC_ok (hH:HOk1 E H) {id:Nat}:∀ (l:List Oper) (i:Nat) (a:AAct) (σ:State),opsC E H an hs id ops l i K a σ -> opsS E (selfH E) an id ops l i K a σ
 | [],_,_,_,k => k
 | o :: l,i,a,σ,k => stepS_mono (hok_self E) (fun a σ k => opsC_ok hH l (i + 1) a σ k) (stepC_ok hH k)

theorem runC_ok (hH:HOk1 E H) {id:Nat}:∀ (l:List (Oper × Nat)) (K:Next') (a:AAct),runC E H an hs id ops l K a σ -> runN E (selfH E) an id ops l K a σ
 | [],_,_,k => k
 | (o,i) :: l,K,a,k => by
  unfold runC at k
  split at k
  ·rename_i hc
   rw [Bool.and_eq_true] at hc
   unfold runN
   rw [plainA_ok hc.1]
   exact stepS_mono (hok_self E) (fun a σ' k => ⟨k.1,runC_ok hH l K a k.2⟩) (stepS_still hc.2 (stepC_ok hH k))
  ·exact k.elim

theorem checkC_ok (hH:HOk1 E H) {id:Nat} {R:Prop}:∀ (l:List (Oper × Nat)),checkC E H an hs id ops l a σ R -> checkN E (selfH E) an id ops l a σ /\ R
 | [],k => ⟨trivial,k⟩
 | (o,i) :: l,k => by
  unfold checkC at k
  split at k
  ·rename_i hc
   rw [Bool.and_eq_true] at hc
   unfold checkN
   obtain ⟨h1,h2⟩:=checkC_ok hH l k.2
   refine ⟨⟨?_,h1⟩,h2⟩
   simp only [plainA_ok hc.1]
   refine stepS_mono (hok_self E) (fun a' σ' k => ⟨k.1,?_⟩) (stepS_still hc.2 (stepC_ok hH k.1))
   have h2:=k.2
   unfold sameAtC at h2
   unfold sameAt
   split
   ·rename_i d hd; simp only [hd] at h2; exact h2
   ·trivial
  ·exact k.elim

theorem runN_same {id:Nat}:∀ (l:List (Oper × Nat)) (K:Next') (a:AAct),runN E (selfH E) an id ops l K a σ -> runN E (selfH E) an id ops l (fun a' σ' => σ' = σ /\ K a' σ') a σ:=by
 intro l
 induction l with
 | nil => intro K a k; exact ⟨rfl,k⟩
 | cons x l ih =>
  intro K a k
  exact stepS_mono (hok_self E) (fun a' σ' k => ⟨k.1,ih K a' k.2⟩) k
theorem checkN_of' {id:Nat} {H':Hand}:∀ {l:List (Oper × Nat)},(∀ x ∈ l,stepS E H' (an.ann id x.2) ops x.1 (fun a' σ' => σ' = σ /\ sameAt x.1.dst a' a) a σ) -> checkN E H' an id ops l a σ
 | [],_ => trivial
 | x :: l,h => ⟨h x (by simp),checkN_of' fun y hy => h y (by simp [hy])⟩

theorem allC_ok {α:Type} {p q:α -> Prop} (h:∀ x,p x -> q x):∀ l,allC p l -> allE q l
 | [],_ => trivial
 | [x],k => h _ k
 | x :: y :: r,k => ⟨h _ k.1,allC_ok h (y :: r) k.2⟩

theorem drawC_ok (hH:HOk1 E H) {id:Nat} {anc eff:List Nat}:∀ (f:Nat) (done:List Nat) (K:Next') (a:AAct) (σ:State),drawC E H an hs id ops anc eff f done K a σ -> drawS E (selfH E) an id ops anc eff f done K a σ
 | 0,_,_,_,_,k => k.elim
 | f + 1,done,K,a,σ,k => by
  unfold drawC at k
  split at k
  case h_2 => exact k.elim
  rename_i hset
  rw [Bool.and_eq_true,List.all_eq_true] at hset
  unfold drawS
  have k:=run_settled (hok_self E) _ [] _ a hset.2 hset.1 (by simp) (by simp) (runC_ok hH _ _ _ k)
  refine runN_mono (hok_self E) (fun a' σ' k => ?_) _ _ _ (runN_same _ _ _ k)
  obtain ⟨rfl,k0,k⟩:=k
  obtain ⟨k1,k2⟩:=checkC_ok hH _ k
  refine ⟨checkN_of' fun x hx => ?_,?_⟩
  ·obtain ⟨hx1,hx2⟩:=List.mem_filter.1 hx
   cases hn:newly anc eff done x with
   | true => exact k0 x (.inr (List.mem_filter.2 ⟨hx1,hn⟩))
   | false => exact checkN_mem k1 x (List.mem_filter.2 ⟨hx1,by rw [hx2,hn]; rfl⟩)
  ·split
   ·rename_i e; rw [e] at k2; exact k2
   ·rename_i e; rw [e] at k2
    dsimp only at k2
    exact allC_ok (fun oi k => stepS_mono (hok_self E) (fun a σ k => drawC_ok hH f _ K a σ k) (stepC_ok hH k)) _ k2

theorem wpC_ok (hH:HOk1 E H) (hm:E.P.follows .mixedOrders = true) {L:LHand}:∀ (c:Code) (Q:Post) (a:AAct) (σ:State),(∀ l ∈ loopsIn c,codeOk n an l = true -> ∀ Q a σ,L l Q a σ -> AWp E rd n l Q a σ) -> codeOk n an c = true -> wpC E H L an hs c Q a σ -> AWp E rd n c Q a σ
 | .skip,Q,a,σ,hL,_,h => awp_skip h
 | .region id ops false,Q,a,σ,hL,hc,h => by
  simp only [codeOk,Bool.and_eq_true] at hc
  exact awp_region (hok_self E) hc.1 (opsC_ok hH _ _ _ _ h)
 | .region id ops true,Q,a,σ,hL,hc,h => by
  simp only [codeOk,Bool.and_eq_true,Bool.not_true,Bool.false_or] at hc
  exact awp_draw (hok_self E) hm hc.1 hc.2 (drawC_ok hH _ _ _ _ _ h)
 | .seq x y,Q,a,σ,hL,hc,h => by
  simp only [codeOk,Bool.and_eq_true] at hc
  refine awp_seq ((wpC_ok hH hm x _ a σ (fun l hl => hL l (List.mem_append_left _ hl)) hc.1 h).mono fun e a σ k => ?_)
  cases e <;> first | exact wpC_ok hH hm y Q a σ (fun l hl => hL l (List.mem_append_right _ hl)) hc.2 k | exact k
 | .cond c x y,Q,a,σ,hL,hc,h => by
  simp only [codeOk,Bool.and_eq_true] at hc
  simp only [wpC] at h
  split at h
  ·rename_i b hb
   refine awp_cond hb (fun e => ?_) (fun e => ?_)
   ·subst e; rw [setC_same hb] at h; exact wpC_ok hH hm x Q _ σ (fun l hl => hL l (List.mem_append_left _ hl)) hc.1 h
   ·subst e; simp only [bcase] at h; rw [setC_same hb] at h; exact wpC_ok hH hm y Q _ σ (fun l hl => hL l (List.mem_append_right _ hl)) hc.2 h
  ·exact h.elim
 | .block id c,Q,a,σ,hL,hc,h => by
  refine awp_block ((wpC_ok hH hm c _ a σ hL hc h).mono fun e a σ k => ?_)
  cases e with
  | exit id' =>
   simp only at k ⊢
   split at k
   ·rename_i e; rw [if_pos (by simpa using e)]; exact k
   ·rename_i e; rw [if_neg (by rintro rfl; rw [Nat.beq_refl] at e; cases e)]; exact k
  | _ => exact k
 | .loop c,Q,a,σ,hL,hc,h => hL _ (by simp [loopsIn]) hc _ _ _ h
 | .rangeFunc f ps x y,Q,a,σ,hL,hc,h => hL _ (by simp [loopsIn]) hc _ _ _ h
 | .exit id,Q,a,σ,hL,hc,h => awp_exit h
 | .ret,Q,a,σ,hL,hc,h => awp_ret h
 | .scope c,Q,a,σ,hL,hc,h => h.elim
 | .label l,Q,a,σ,hL,hc,h => h.elim
 | .goto l,Q,a,σ,hL,hc,h => h.elim
 | .refuse y,Q,a,σ,hL,hc,h => h.elim
end

def retX (P:Program) (rs:List ResultVar) (Q:AV -> State -> Prop) (a:AAct) (σ:State):Prop :=
 match ares P a σ rs with
 | some v => Q v σ
 | none => False

def retC (P:Program) (rs:List ResultVar) (Q:AV -> State -> Prop) (e:Exit) (a:AAct) (σ:State):Prop :=
 match e with
 | .normal => retX P rs Q a σ
 | .ret => retX P rs Q a σ
 | _ => False

theorem retC_ok {P:Program} {rs:List ResultVar} {Q:AV -> State -> Prop} {e:Exit} {a:AAct} {σ:State} (h:retC P rs Q e a σ):bodyQ P rs Q e a σ:=by
 have key:retX P rs Q a σ -> ∃ v v' σ',ares P a σ rs = some v /\ Wk v v' /\ σ'.Le σ /\ Q v' σ':=by
  intro h
  unfold retX at h
  split at h
  ·rename_i v hv; exact ⟨v,v,σ,hv,.refl v,.refl σ,h⟩
  ·exact h.elim
 cases e <;> first | exact key h | exact h.elim

def bodyC (E:Env) (H:Hand) (L:LHand) (A:Nat -> FnAnn) (hs:FnHint) (f:Nat) (args:List AV) (σ:State) (Q:AV -> State -> Prop):Prop :=
 match E.P.funcs[f]? with
 | some fn => match fn.body with
  | some c => match codeOk fn.ntmps (A f) c && Nat.ble args.length fn.ntmps with
   | true => wpC E H L (A f) hs c (retC E.P fn.results.toList Q) (initA args) σ
   | false => False
  | none => False
 | none => False

def fnLoops (P:Program) (f:Nat):List Code :=
 match P.funcs[f]? with
 | some fn => match fn.body with
  | some c => loopsIn c
  | none => []
 | none => []
def fnTmps (P:Program) (f:Nat):Nat :=
 match P.funcs[f]? with
 | some fn => fn.ntmps
 | none => 0

theorem bodyC_ok {E:Env} {H:Hand} {L:LHand} {A:Nat -> FnAnn} {hs:FnHint} {f:Nat} {args:List AV} {σ:State} {Q:AV -> State -> Prop} (hm:E.P.follows .mixedOrders = true) (hH:HOk1 E H)
  (hL:∀ l ∈ fnLoops E.P f,codeOk (fnTmps E.P f) (A f) l = true -> ∀ Q a σ,L l Q a σ -> AWp E none (fnTmps E.P f) l Q a σ) (h:bodyC E H L A hs f args σ Q):ACalls E f args σ Q:=by
 unfold bodyC at h
 unfold fnLoops fnTmps at hL
 split at h
 ·rename_i fn hf
  rw [hf] at hL
  dsimp only at hL
  split at h
  ·rename_i c hb
   rw [hb] at hL
   dsimp only at hL
   split at h
   ·rename_i hc
    rw [Bool.and_eq_true] at hc
    exact acalls_body hf hb (Nat.le_of_ble_eq_true hc.2) ((wpC_ok hH hm c _ _ σ hL hc.1 h).mono fun e a σ k => retC_ok k)
   ·exact h.elim
  ·exact h.elim
 ·exact h.elim

def loopC (E:Env) (H:Hand) (own:Nat) (rd:Option Nat) (n:Nat) (an:FnAnn) (hs:FnHint):Nat -> LHand
 | 0 => fun _ _ _ _ => False
 | k + 1 => fun c Q a σ => match c with
  | .loop b => wpC E H (loopC E H own rd n an hs k) an hs b (fun e a σ => match e with | .normal => loopC E H own rd n an hs k (.loop b) Q a σ | e => Q e a σ) a σ
  | _ => False

theorem loopC_ok {E:Env} {H:Hand} {rd:Option Nat} {n:Nat} {an:FnAnn} {hs:FnHint} (hH:HOk1 E H) (hm:E.P.follows .mixedOrders = true) (own:Nat):∀ (k:Nat) (c:Code),codeOk n an c = true -> ∀ (Q:Post) (a:AAct) (σ:State),loopC E H own rd n an hs k c Q a σ -> AWp E rd n c Q a σ
 | 0,_,_,_,_,_,h => h.elim
 | k + 1,c,hc,Q,a,σ,h => by
  unfold loopC at h
  split at h
  ·rename_i b
   refine awp_loop (fun m a σ => m <= k + 1 /\ loopC E H own rd n an hs m (.loop b) Q a σ) (m:=k + 1) ⟨Nat.le_refl _,h⟩ fun m a σ hI => ?_
   cases m with
   | zero => exact absurd hI.2 (by simp [loopC])
   | succ m =>
    refine (wpC_ok hH hm (L:=loopC E H own rd n an hs m) b _ a σ (fun l _ hl Q a σ => loopC_ok hH hm own m l hl Q a σ) hc hI.2).mono fun e a σ h => ?_
    cases e <;> first | exact ⟨m,Nat.lt_succ_self m,Nat.le_of_succ_le hI.1,h⟩ | exact h
  ·exact h.elim
 termination_by k => k

abbrev Contract:=List AV -> State -> (AV -> State -> Prop) -> Prop
def ContractOk (E:Env) (f:Nat) (c:Contract):Prop:=∀ args σ Q,c args σ Q -> ACalls E f args σ Q

def handC (E:Env) (A:Nat -> FnAnn) (N:Nat -> FnHint) (T:Nat -> Option Contract) (lf:Nat):Nat -> Hand
 | 0 => fun _ _ _ _ => False
 | k + 1 => fun t args σ Q => match t with
  | .yield id => False
  | .fn f => match T f with
   | some c => c args σ Q
   | none => bodyC E (handC E A N T lf k) (loopC E (handC E A N T lf k) f none (fnTmps E.P f) (A f) (N f) lf) A (N f) f args σ Q

theorem handC_ok {E:Env} (hm:E.P.follows .mixedOrders = true) {A:Nat -> FnAnn} {N:Nat -> FnHint} {T:Nat -> Option Contract} {lf:Nat} (hT:∀ f c,T f = some c -> ContractOk E f c):∀ k,HOk1 E (handC E A N T lf k)
 | 0 => fun _ _ _ _ h => h.elim
 | k + 1 => fun t args σ Q h => by
  unfold handC at h
  cases t with
  | yield id => exact h.elim
  | fn f =>
   dsimp only at h
   split at h
   ·rename_i c hc; exact hT f c hc _ _ _ h
   ·have ih:=handC_ok (A:=A) (N:=N) (lf:=lf) hm hT k
    exact bodyC_ok hm ih (fun l _ hl Q a σ k => loopC_ok ih hm f lf l hl Q a σ k) h

def tabC:List (Nat × Contract) -> Nat -> Option Contract
 | [],_ => none
 | (k,c) :: l,f => match Nat.beq k f with
  | true => some c
  | false => tabC l f
theorem tabC_ok {E:Env}:∀ {l:List (Nat × Contract)},(∀ p ∈ l,ContractOk E p.1 p.2) -> ∀ f c,tabC l f = some c -> ContractOk E f c
 | [],_,_,_,h => by cases h
 | (k,c') :: l,hl,f,c,h => by
  unfold tabC at h
  split at h
  ·rename_i e
   have:=Nat.eq_of_beq_eq_true e
   subst this
   cases h
   exact hl (k,c') (by simp)
  ·exact tabC_ok (fun p hp => hl p (by simp [hp])) f c h

theorem contracts_nil {E:Env}:∀ p ∈ ([]:List (Nat × Contract)),ContractOk E p.1 p.2:=fun p hp => by cases hp
theorem contracts_cons {E:Env} {f:Nat} {c:Contract} {l:List (Nat × Contract)} (h:ContractOk E f c) (hl:∀ p ∈ l,ContractOk E p.1 p.2):∀ p ∈ (f,c) :: l,ContractOk E p.1 p.2:=fun p hp => by
 rcases List.mem_cons.1 hp with rfl | hp
 ·exact h
 ·exact hl p hp

def hnd (E:Env) (A:Nat -> FnAnn) (N:Nat -> FnHint) (l:List (Nat × Contract)):Hand:=handC E A N (tabC l) 100 50
theorem hnd_ok {E:Env} {A:Nat -> FnAnn} {N:Nat -> FnHint} {l:List (Nat × Contract)} (hm:E.P.follows .mixedOrders = true) (hl:∀ p ∈ l,ContractOk E p.1 p.2):HOk1 E (hnd E A N l):=by
 unfold hnd
 generalize 100 = lf
 generalize 50 = k
 exact handC_ok hm (tabC_ok hl) k

end Go.V
/- The W-layer, part 3: frames of which less is told; loops with invariants over told frames. -/
namespace Go.V
open Go.RowKit

structure AAct.Wk (a' a:AAct):Prop where
 t:∀ t,a'.t t = .v .undef \/ (a'.t t = a.t t /\ ∀ k off,a.t t = .l k off -> a'.l k = a.l k) \/ (∃ x x',a.t t = .v x /\ a'.t t = .v x' /\ Go.V.Wk x x')

theorem AAct.Wk.refl (a:AAct):a.Wk a:=⟨fun t => .inr (.inl ⟨rfl,fun _ _ _ => rfl⟩)⟩

section
variable {E:Env} {H:Hand} {rd:Option Nat} {n:Nat} {R0:Nat -> Option Obj} {loc:Nat -> Option Nat} {g:Ghost} {σ:State} {w:World} {a a':AAct} {act:Act} {an:FnAnn}

theorem Fr.wk (h:Fr n R0 E.B g loc a act) (hw:a'.Wk a):∃ loc',Fr n R0 E.B g loc' a' act:=by
 classical
 refine ⟨fun k => if a'.l k = a.l k then loc k else none,h.size,h.marks,fun t => ?_,fun k b hk => ?_,fun k j b hk hj => ?_,h.sub⟩
 ·rcases hw.t t with e | ⟨e,hl⟩ | ⟨x,x',e1,e2,hx⟩
  ·rw [e]; exact RV.undef _
  ·have ht:=h.tmp t
   rw [e]
   cases hx:a.t t with
   | v x => rw [hx] at ht; exact ht
   | l k off =>
    rw [hx] at ht
    obtain ⟨b,hb,hu⟩:=ht
    exact ⟨b,by dsimp only; rw [if_pos (hl k off hx)]; exact hb,hu⟩
  ·have ht:=h.tmp t
   rw [e1] at ht
   rw [e2]
   exact hx _ _ ht
 ·split at hk
  ·rename_i e
   rw [e]; exact h.cell k b hk
  ·cases hk
 ·split at hk
  ·split at hj
   ·exact h.inj k j b hk hj
   ·cases hj
  ·cases hk

theorem AWp.pre_wk {c:Code} {Q:Post} {σ':State} (hw:a'.Wk a) (hl:σ'.Le σ) (h:AWp E rd n c Q a' σ'):AWp E rd n c Q a σ :=
 ⟨fun g w act loc R0 F hF hG hS hT => by
  obtain ⟨loc',hT'⟩:=hT.wk hw
  exact h.run g w act loc' R0 F hF hG (hS.forget hl) hT'⟩

theorem AWp.post_wk {c:Code} {Q:Post} (h:AWp E rd n c (fun e a σ => ∃ a' σ',a'.Wk a /\ σ'.Le σ /\ Q e a' σ') a σ):AWp E rd n c Q a σ :=
 ⟨fun g w act loc R0 F hF hG hS hT => wpIn_mono (h.run g w act loc R0 F hF hG hS hT) fun e act' w' k => by
  cases e <;> first | exact k | (
   obtain ⟨g',a1,σ1,loc1,h1,h2,h3,a2,σ2,h4,h5,h6⟩:=k
   obtain ⟨loc',h7⟩:=h3.wk h4
   exact ⟨g',a2,σ2,loc',h1,h2.forget h5,h7,h6⟩)⟩
end

def lukT:List (Nat × TV) -> Nat -> TV
 | [],_ => .v .undef
 | (i,v) :: r,j => match Nat.beq i j with
  | true => v
  | false => lukT r j
def lukL:List (Nat × List AV) -> Nat -> List AV
 | [],_ => []
 | (i,v) :: r,j => match Nat.beq i j with
  | true => v
  | false => lukL r j

def frm (F:List (Nat × TV)) (FL:List (Nat × List AV)):AAct:=⟨lukT F,lukL FL⟩

def hasT (a:AAct):List (Nat × TV) -> Prop -> Prop
 | [],R => R
 | (i,v) :: r,R => a.t i = v /\ hasT a r R
def hasL (a:AAct):List (Nat × List AV) -> Prop -> Prop
 | [],R => R
 | (i,v) :: r,R => a.l i = v /\ hasL a r R
def okF (FL:List (Nat × List AV)):List (Nat × TV) -> Bool
 | [] => true
 | (_,.v _) :: r => okF FL r
 | (_,.l k _) :: r => FL.any (fun x => Nat.beq x.1 k) && okF FL r

def atF (a:AAct) (F:List (Nat × TV)) (FL:List (Nat × List AV)) (R:Prop):Prop :=
 match okF FL F with
 | true => hasT a F (hasL a FL R)
 | false => False

theorem hasL_ok {a:AAct} {R:Prop}:∀ {FL:List (Nat × List AV)},hasL a FL R -> R /\ ∀ k,FL.any (fun x => Nat.beq x.1 k) = true -> lukL FL k = a.l k
 | [],h => ⟨h,fun k hk => by simp at hk⟩
 | (i,v) :: r,h => by
  obtain ⟨h1,h2⟩:=hasL_ok h.2
  refine ⟨h1,fun k hk => ?_⟩
  unfold lukL
  split
  ·rename_i e
   have:i = k:=Nat.eq_of_beq_eq_true e
   subst this; exact h.1.symm
  ·rename_i e
   refine h2 k ?_
   simp only [List.any_cons,Bool.or_eq_true] at hk
   rcases hk with hk | hk
   ·rw [e] at hk; cases hk
   ·exact hk
theorem hasT_ok {a:AAct} {R:Prop} {FL:List (Nat × List AV)}:∀ {F:List (Nat × TV)},okF FL F = true -> hasT a F R -> R /\ ∀ t,lukT F t = .v .undef \/ (lukT F t = a.t t /\ ∀ k off,a.t t = .l k off -> FL.any (fun x => Nat.beq x.1 k) = true)
 | [],_,h => ⟨h,fun t => .inl rfl⟩
 | (i,v) :: r,ho,h => by
  have ho':okF FL r = true:=by
   cases v with
   | v x => exact ho
   | l k off => simp only [okF,Bool.and_eq_true] at ho; exact ho.2
  obtain ⟨h1,h2⟩:=hasT_ok ho' h.2
  refine ⟨h1,fun t => ?_⟩
  unfold lukT
  split
  ·rename_i e
   have:i = t:=Nat.eq_of_beq_eq_true e
   subst this
   refine .inr ⟨h.1.symm,fun k off hk => ?_⟩
   rw [h.1] at hk
   subst hk
   simp only [okF,Bool.and_eq_true] at ho
   exact ho.1
  ·exact h2 t

theorem atF_ok {a:AAct} {F:List (Nat × TV)} {FL:List (Nat × List AV)} {R:Prop} (h:atF a F FL R):(frm F FL).Wk a /\ R:=by
 unfold atF at h
 split at h
 ·rename_i ho
  obtain ⟨h1,h2⟩:=hasT_ok ho h
  obtain ⟨h3,h4⟩:=hasL_ok h1
  refine ⟨⟨fun t => ?_⟩,h3⟩
  rcases h2 t with e | ⟨e,hk⟩
  ·exact .inl e
  ·exact .inr (.inl ⟨e,fun k off hko => h4 k (hk k off hko)⟩)
 ·exact h.elim

def lst (L:List AObj) (n:Nat):State:=⟨fun j => L.getD j .dead,n⟩

def isDead:AObj -> Bool
 | .dead => true
 | _ => false
def atSGo (σ:State):Nat -> List AObj -> Prop -> Prop
 | _,[],R => R
 | i,o :: L,R => match isDead o with
  | true => atSGo σ (i + 1) L R
  | false => σ.objs i = o /\ atSGo σ (i + 1) L R
def atS (σ:State) (L:List AObj) (n:Nat) (R:Prop):Prop:=σ.next = n /\ atSGo σ 0 L R

theorem isDead_ok {o:AObj} (h:isDead o = true):o = .dead:=by cases o <;> first | rfl | cases h
theorem atSGo_ok {σ:State} {R:Prop}:∀ {L:List AObj} {i:Nat},atSGo σ i L R -> R /\ ∀ j,L.getD j .dead = σ.objs (i + j) \/ L.getD j .dead = .dead
 | [],i,h => ⟨h,fun j => .inr (by simp)⟩
 | o :: L,i,h => by
  unfold atSGo at h
  split at h
  ·rename_i hd
   obtain ⟨h1,h2⟩:=atSGo_ok h
   refine ⟨h1,fun j => ?_⟩
   cases j with
   | zero => exact .inr (isDead_ok hd)
   | succ j => have:=h2 j; rw [show i + (j + 1) = i + 1 + j by omega]; simpa using this
  ·obtain ⟨h1,h2⟩:=atSGo_ok h.2
   refine ⟨h1,fun j => ?_⟩
   cases j with
   | zero => exact .inl h.1.symm
   | succ j => have:=h2 j; rw [show i + (j + 1) = i + 1 + j by omega]; simpa using this
theorem atS_ok {σ:State} {L:List AObj} {n:Nat} {R:Prop} (h:atS σ L n R):(lst L n).Le σ /\ R:=by
 obtain ⟨h1,h2⟩:=h
 obtain ⟨h3,h4⟩:=atSGo_ok h2
 exact ⟨⟨h1.symm,fun id => by have:=h4 id; rw [Nat.zero_add] at this; exact this⟩,h3⟩

section
variable {E:Env} {rd:Option Nat} {n:Nat} {σ:State} {a:AAct}

def atFS (a:AAct) (σ:State) (F:List (Nat × TV)) (FL:List (Nat × List AV)) (L:List AObj) (n:Nat):Prop:=atF a F FL (atS σ L n True)
theorem atFS_ok {F:List (Nat × TV)} {FL:List (Nat × List AV)} {L:List AObj} {m:Nat} (h:atFS a σ F FL L m):(frm F FL).Wk a /\ (lst L m).Le σ :=
 ⟨(atF_ok h).1,(atS_ok (atF_ok h).2).1⟩

structure LI (X:Type) where
 F:X -> List (Nat × TV)
 FL:X -> List (Nat × List AV)
 L:X -> List AObj
 m:X -> Nat
 I:X -> Prop
 μ:X -> Nat
 Ex:X -> Exit -> AAct -> State -> Prop

def LI.post {X:Type} (l:LI X) (x:X):Post:=fun e a σ => match e with
 | .normal => ∃ x',(l.I x' /\ l.μ x' < l.μ x) /\ atFS a σ (l.F x') (l.FL x') (l.L x') (l.m x')
 | e => l.Ex x e a σ

theorem awp_loopE {X:Type} (l:LI X) {c:Code} {Q:Post} (hb:∀ x,l.I x -> AWp E rd n c (l.post x) (frm (l.F x) (l.FL x)) (lst (l.L x) (l.m x)))
  (hx:∀ x,l.I x -> ∀ e a σ,e ≠ .normal -> l.Ex x e a σ -> ∃ a' σ',a'.Wk a /\ σ'.Le σ /\ Q e a' σ')
  {x0:X} (h0:l.I x0) (ha:atFS a σ (l.F x0) (l.FL x0) (l.L x0) (l.m x0)):AWp E rd n (.loop c) Q a σ:=by
 refine .post_wk (awp_loop (fun k a σ => ∃ x,l.I x /\ l.μ x = k /\ (frm (l.F x) (l.FL x)).Wk a /\ (lst (l.L x) (l.m x)).Le σ) (m:=l.μ x0) ⟨x0,h0,rfl,atFS_ok ha⟩ ?_)
 rintro k a σ ⟨x,hI,rfl,h1,h2⟩
 refine .pre_wk h1 h2 ((hb x hI).mono fun e a σ k => ?_)
 cases e with
 | normal =>
  obtain ⟨x',⟨h3,h4⟩,h5⟩:=k
  exact ⟨l.μ x',h4,x',h3,rfl,atFS_ok h5⟩
 | _ => exact hx x hI _ _ _ (by simp) k

theorem exit_at {e:Exit} {F:List (Nat × TV)} {FL:List (Nat × List AV)} {L:List AObj} {m:Nat} {Q:Post} (ha:atFS a σ F FL L m) (hq:Q e (frm F FL) (lst L m)):∃ a' σ',a'.Wk a /\ σ'.Le σ /\ Q e a' σ' :=
 ⟨_,_,(atFS_ok ha).1,(atFS_ok ha).2,hq⟩

def lbody (P:Program) (f i:Nat):Code :=
 match (fnLoops P f)[i]? with
 | some (.loop c) => c
 | _ => .skip
end
end Go.V
