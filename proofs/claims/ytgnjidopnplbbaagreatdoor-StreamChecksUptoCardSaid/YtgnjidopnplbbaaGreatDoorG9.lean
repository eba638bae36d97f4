import Derived.Test.YtgnjidopnplbbaaGreatDoorG6
import Derived.Test.YtgnjidopnplbbaaGreatDoorG8
import Derived.Test.YtgnjidopnplbbaaGreatDoorProg
import Derived.KernelRfl
/- The map of reserved symbols: ten entries, put in whatever order. -/
set_option maxRecDepth 1000000
set_option linter.unusedSimpArgs false
set_option linter.unusedVariables false
namespace Go.V
open Go.RowKit Go.Proofs

noncomputable def EV (B:Nat) (w0:World) (G:Nat -> AV):Env:=⟨Tryz.prog,B,w0,G⟩

theorem EV_mixed (B:Nat) (w0:World) (G:Nat -> AV):(EV B w0 G).P.follows .mixedOrders = true:=by kernel_rfl

theorem checkN_of {E:Env} {H:Hand} {an:FnAnn} {id:Nat} {ops:Array Oper} {a:AAct} {σ:State}:∀ {l:List (Oper × Nat)},(∀ x ∈ l,stepS E H (an.ann id x.2) ops x.1 (fun a' σ' => σ' = σ /\ sameAt x.1.dst a' a) a σ) -> checkN E H an id ops l a σ
 | [],_ => trivial
 | x :: l,h => ⟨h x (by simp),checkN_of fun y hy => h y (by simp [hy])⟩
theorem allE_of {α:Type} {p:α -> Prop}:∀ {l:List α},(∀ x ∈ l,p x) -> allE p l
 | [],_ => trivial
 | [x],h => h x (by simp)
 | x :: y :: l,h => ⟨h x (by simp),allE_of fun z hz => h z (by simp [hz])⟩

theorem State.new_set (σ:State) (o o':AObj):(σ.new o).set σ.next o' = σ.new o':=by
 unfold State.new State.set
 congr 1
 funext j
 dsimp only
 split <;> rfl
theorem State.new_objs (σ:State) (o:AObj):(σ.new o).objs σ.next = o:=by simp [State.new]

theorem insert_op {P:Program} {ann:Ann} {o:Oper} {ρ:Operand -> AV} {σ:State} {t kt et id:Nat} {m k x:Operand} {key v:AV} {es:List (AV × AV)}
  (ha:ann ≠ .frz) (ho:o.op = .insert t m k x) (hm:ρ m = .map id) (hk:ρ k = key) (hx:ρ x = v) (ht:amap P t = some (kt,et)) (hok:akeyOk P kt key = true) (hi:σ.objs id = .map es)
  (hne:∀ e ∈ es,aeq P kt key e.1 = some false):aopF P ann o ρ σ = .ok .undef (σ.set id (.map (es ++ [(key,v)]))):=by
 have hak:∀ (l:List (AV × AV)) n,(∀ e ∈ l,aeq P kt key e.1 = some false) -> akey P kt key l n = some none:=by
  intro l
  induction l with
  | nil => intro n _; rfl
  | cons e l ih => intro n h; simp only [akey,h e (by simp)]; exact ih (n + 1) fun e' he => h e' (by simp [he])
 unfold aopF
 simp only [ho,aop,hm,hk,hx,amapUpdate,ht,hok,if_true,hi,hak es 0 hne,amapSet,ha,if_false]

section
variable (anc eff:List Nat) (zi:List (Oper × Nat))
def isBuild (x:Oper × Nat):Bool:=!eff.contains x.2 && eff.all fun e => !isBefore anc e x.2
def isLast (x:Oper × Nat):Bool:=!eff.contains x.2 && eff.all fun e => isBefore anc e x.2

variable {anc eff}
theorem eager_build {x:Oper × Nat} (h:isBuild anc eff x = true) (d:List Nat):eager anc eff d x.2 = true:=by
 unfold isBuild at h
 unfold eager
 simp only [Bool.and_eq_true,List.all_eq_true] at h ⊢
 exact ⟨h.1,fun e he => by rw [h.2 e he]; rfl⟩
theorem eager_last {x:Oper × Nat} (h:isLast anc eff x = true) (d:List Nat):eager anc eff d x.2 = eff.all fun e => d.contains e:=by
 unfold isLast at h
 unfold eager
 simp only [Bool.and_eq_true,List.all_eq_true] at h
 rw [h.1,Bool.true_and,Bool.eq_iff_iff,List.all_eq_true,List.all_eq_true]
 constructor
 ·intro k e he
  have:=k e he
  rw [h.2 e he] at this
  simpa using this
 ·intro k e he
  rw [h.2 e he,k e he]; rfl
theorem eager_eff {i:Nat} (h:eff.contains i = true) (d:List Nat):eager anc eff d i = false:=by
 unfold eager; rw [h]; rfl
end

def tblKeys:List AV:=[.agg [.str ⟨⟨[116,114,117,101]⟩⟩,.int .i64 0],.agg [.str ⟨⟨[61]⟩⟩,.int .i64 2],.agg [.str ⟨⟨[58,61]⟩⟩,.int .i64 2],.agg [.str ⟨⟨[64]⟩⟩,.int .i64 2],.agg [.str ⟨⟨[58,45]⟩⟩,.int .i64 2],
 .agg [.str ⟨⟨[58,45]⟩⟩,.int .i64 1],.agg [.str ⟨⟨[44]⟩⟩,.int .i64 2],.agg [.str ⟨⟨[124]⟩⟩,.int .i64 2],.agg [.str ⟨⟨[111,116,104,101,114,119,105,115,101]⟩⟩,.int .i64 0],
 .agg [.str ⟨⟨[97,108,116,101,114,110,97,116,105,118,101,108,121]⟩⟩,.int .i64 0]]
def keyNo (i:Nat):AV:=tblKeys.getD (i / 2 - 1) .undef
def ent (i:Nat):AV × AV:=(keyNo i,.bool true)
def tbl225:List (AV × AV):=tblKeys.map fun k => (k,.bool true)

def findR (id:Nat):Code -> Option (Array Oper)
 | .region i ops _ => if Nat.beq i id then some ops else none
 | .seq a b => match findR id a with | some x => some x | none => findR id b
 | .cond _ a b => match findR id a with | some x => some x | none => findR id b
 | .block _ c => findR id c
 | .loop c => findR id c
 | .rangeFunc _ _ a b => match findR id a with | some x => some x | none => findR id b
 | _ => none
noncomputable def ops225:Array Oper:=match Tryz.prog.funcs[225]? with
 | some fn => match fn.body with
  | some c => (findR 1 c).getD #[]
  | none => #[]
 | none => #[]
def eff225:List Nat:=[0,2,4,6,8,10,12,14,16,18,20]
noncomputable def anc225:List Nat:=ancOf ops225

def insB (x:Oper × Nat):Bool :=
 match x.1.op,x.1.guard,x.1.dst with
 | .insert t (.tmp m) (.tmp k) (.const (.bool true)),none,none => Nat.beq t 226 && (Nat.beq m 1 && Nat.beq k (x.2 / 2 + 1))
 | _,_,_ => false

theorem insB_ok {x:Oper × Nat} (h:insB x = true):x.1.op = .insert 226 (.tmp 1) (.tmp (x.2 / 2 + 1)) (.const (.bool true)) /\ x.1.guard = none /\ x.1.dst = none:=by
 unfold insB at h
 split at h
 ·rename_i t m k h1 h2 h3
  simp only [Bool.and_eq_true] at h
  rw [h1,h2,h3,Nat.eq_of_beq_eq_true h.1,Nat.eq_of_beq_eq_true h.2.1,Nat.eq_of_beq_eq_true h.2.2]
  exact ⟨rfl,rfl,rfl⟩
 ·cases h

def frB (a:AAct):AAct:=(List.range 10).foldl (fun a j => a.put (some (j + 2)) (.v (tblKeys.getD j .undef))) a
def fr225 (a:AAct) (i:Nat):AAct:=(frB a).put (some 1) (.v (.map i))
def frE (a:AAct) (i:Nat):AAct:=((fr225 a i).put (some 12) (.v (.map i))).put (some 0) (.v (.map i))

theorem all225:ops225.toList.zipIdx.all (fun x => (eff225.contains x.2 && (Nat.beq x.2 0 || insB x)) || isBuild anc225 eff225 x || isLast anc225 eff225 x) = true:=by kernel_rfl
theorem keys225 (B:Nat) (w0:World) (G:Nat -> AV):(eff225.all fun i => Nat.beq i 0 || (akeyOk Tryz.prog 240 (keyNo i) && eff225.all fun j => Nat.beq j 0 || Nat.beq i j || (match aeq Tryz.prog 240 (keyNo i) (keyNo j) with | some false => true | _ => false))) = true:=by kernel_rfl
theorem ann225_eq:annA 225 = ann225:=by kernel_rfl
theorem amap225:amap Tryz.prog 226 = some (240,4):=by kernel_rfl

theorem before225:ops225.toList.zipIdx.all (fun x => !isBuild anc225 eff225 x || eff225.any fun e => isBefore anc225 x.2 e) = true:=by kernel_rfl

section
variable {B:Nat} {w0:World} {G:Nat -> AV}
noncomputable def zi225:List (Oper × Nat):=ops225.toList.zipIdx
theorem zi225_eq:zi225 = ops225.toList.zipIdx:=rfl

theorem run_last (K:Next') (a:AAct) (i:Nat) (σ:State):runN (EV B w0 G) (selfH (EV B w0 G)) (annA 225) 1 ops225 (zi225.filter (isLast anc225 eff225)) K (fr225 a i) σ = (σ = σ /\ σ = σ /\ K (frE a i) σ):=by kernel_rfl
theorem check_last (a:AAct) (i:Nat) (σ:State):checkN (EV B w0 G) (selfH (EV B w0 G)) (annA 225) 1 ops225 (zi225.filter (isLast anc225 eff225)) (frE a i) σ = ((σ = σ /\ TV.v (.map i) = TV.v (.map i)) /\ (σ = σ /\ TV.v (.map i) = TV.v (.map i)) /\ True):=by kernel_rfl
theorem run_first (K:Next') (a:AAct) (σ:State):runN (EV B w0 G) (selfH (EV B w0 G)) (annA 225) 1 ops225 (zi225.filter (newly anc225 eff225 [])) K a σ = (σ = σ /\ σ = σ /\ σ = σ /\ σ = σ /\ σ = σ /\ σ = σ /\ σ = σ /\ σ = σ /\ σ = σ /\ σ = σ /\ K (frB a) σ):=by kernel_rfl
theorem check_first (a:AAct) (σ:State):checkB (EV B w0 G) (fun _ _ _ _ => false) (annA 225) 1 ops225 (zi225.filter (isBuild anc225 eff225)) (frB a) σ = true:=by kernel_rfl
theorem check_build (a:AAct) (i:Nat) (σ:State):checkB (EV B w0 G) (fun _ _ _ _ => false) (annA 225) 1 ops225 (zi225.filter (isBuild anc225 eff225)) (fr225 a i) σ = true:=by kernel_rfl
theorem first_maker (K:Nat -> Next') (a:AAct) (σ:State):allE (fun (oi:Oper × Nat) => stepS (EV B w0 G) (selfH (EV B w0 G)) ((annA 225).ann 1 oi.2) ops225 oi.1 (K oi.2) (frB a) σ) (zi225.filter (avail anc225 eff225 [])) = K 0 (fr225 a σ.next) (σ.new (.map [])):=by kernel_rfl

theorem hb_false (E:Env):HBOk E (fun _ _ _ _ => false):=fun _ _ _ _ h => by cases h

theorem zi_cases {x:Oper × Nat} (hx:x ∈ zi225):(eff225.contains x.2 = true /\ (x.2 = 0 \/ insB x = true)) \/ isBuild anc225 eff225 x = true \/ isLast anc225 eff225 x = true:=by
 have h:=all225
 rw [List.all_eq_true] at h
 have:=h x hx
 simp only [Bool.or_eq_true,Bool.and_eq_true] at this
 rcases this with (h1 | h1) | h1
 ·exact .inl ⟨h1.1,h1.2.imp (fun e => Nat.eq_of_beq_eq_true e) id⟩
 ·exact .inr (.inl h1)
 ·exact .inr (.inr h1)

theorem fr225_key (a:AAct) (i j:Nat) (hj:j ∈ eff225) (h0:j ≠ 0):(fr225 a i).t (j / 2 + 1) = .v (keyNo j):=by
 have:(eff225.all fun j => Nat.beq j 0 || decide ((j / 2 + 1) ≠ 1 /\ 2 <= j / 2 + 1 /\ j / 2 - 1 < 10 /\ j / 2 + 1 = (j / 2 - 1) + 2)) = true:=by decide
 simp only [eff225,List.mem_cons,List.not_mem_nil,or_false] at hj
 rcases hj with rfl | rfl | rfl | rfl | rfl | rfl | rfl | rfl | rfl | rfl | rfl <;> first | exact absurd rfl h0 | rfl

def entries (done:List Nat):List (AV × AV):=(done.filter (fun j => !Nat.beq j 0)).map ent

theorem nodup_le:∀ {l m:List Nat},l.Nodup -> (∀ x ∈ l,x ∈ m) -> l.length <= m.length
 | [],_,_,_ => Nat.zero_le _
 | x :: l,m,hn,hs => by
  obtain ⟨h1,h2⟩:=List.nodup_cons.1 hn
  have hx:=hs x (by simp)
  have:=nodup_le (m:=m.erase x) h2 fun y hy => (List.mem_erase_of_ne (by rintro rfl; exact h1 hy)).2 (hs y (by simp [hy]))
  rw [List.length_erase_of_mem hx] at this
  have hp:0 < m.length:=List.length_pos_of_mem hx
  simp only [List.length_cons]
  omega

theorem draw225 {K:Next'} {a:AAct} {σ:State} (hK:∀ es,es.Perm tbl225 -> K (frE a σ.next) (σ.new (.map es))):∀ (f:Nat) (done:List Nat) (es:List (AV × AV)),done.Nodup -> (∀ e ∈ done,e ∈ eff225) -> 0 ∈ done -> es.Perm (entries done) -> 12 <= f + done.length ->
  drawS (EV B w0 G) (selfH (EV B w0 G)) (annA 225) 1 ops225 anc225 eff225 f done K (fr225 a σ.next) (σ.new (.map es)):=by
 intro f
 induction f with
 | zero =>
  intro done es hn hs _ _ hf
  have:done.length <= eff225.length:=nodup_le hn hs
  have e:eff225.length = 11:=rfl
  omega
 | succ f ih =>
  intro done es hn hs h0 hp hf
  have hdone:∃ e d,done = e :: d:=by
   cases done with
   | nil => simp at h0
   | cons e d => exact ⟨e,d,rfl⟩
  obtain ⟨e0,d0,rfl⟩:=hdone
  have hcont:∀ {l:List Nat} {e:Nat},l.contains e = true ↔ e ∈ l:=fun {l e} => by simp
  unfold drawS
  rw [<-zi225_eq]
  cases hfull:eff225.all ((e0 :: d0).contains ·) with
  | true =>
   have hall:∀ e ∈ eff225,e ∈ e0 :: d0:=by
    rw [List.all_eq_true] at hfull
    intro e he; exact hcont.1 (hfull e he)
   have hnew:zi225.filter (newly anc225 eff225 (e0 :: d0)) = zi225.filter (isLast anc225 eff225):=by
    apply List.filter_congr
    intro x hx
    show (eager anc225 eff225 (e0 :: d0) x.2 && !eager anc225 eff225 d0 x.2) = _
    rcases zi_cases hx with ⟨h1,_⟩ | h1 | h1
    ·rw [eager_eff h1]
     unfold isLast; rw [h1]; rfl
    ·rw [eager_build h1,eager_build h1]
     cases hl:isLast anc225 eff225 x with
     | false => rfl
     | true =>
      unfold isBuild at h1; unfold isLast at hl
      simp only [Bool.and_eq_true,List.all_eq_true] at h1 hl
      have k1:=h1.2 0 (by decide); have k2:=hl.2 0 (by decide)
      rw [k2] at k1; cases k1
    ·rw [eager_last h1,eager_last h1,h1]
     have k1:eff225.all (fun e => (e0 :: d0).contains e) = true:=by rw [List.all_eq_true]; exact fun e he => hcont.2 (hall e he)
     have k2:eff225.all (fun e => d0.contains e) = false:=by
      rw [List.all_eq_false]
      refine ⟨e0,hs e0 (by simp),?_⟩
      rw [hcont]
      exact (List.nodup_cons.1 hn).1
     rw [k1,k2]; rfl
   rw [hnew,run_last]
   refine ⟨rfl,rfl,checkN_of fun x hx => ?_,?_⟩
   ·obtain ⟨hx1,hx2⟩:=List.mem_filter.1 hx
    have hlast:isLast anc225 eff225 x = true:=by
     unfold alive at hx2
     simp only [Bool.and_eq_true,Bool.not_eq_true'] at hx2
     rcases zi_cases hx1 with ⟨h1,_⟩ | h1 | h1
     ·rw [eager_eff h1] at hx2; cases hx2.1
     ·have:=before225
      rw [List.all_eq_true] at this
      have:=this x hx1
      rw [h1] at this
      simp only [Bool.not_true,Bool.false_or,List.any_eq_true] at this
      obtain ⟨e,he,hb⟩:=this
      have h2:=hx2.2
      rw [List.any_eq_false] at h2
      exact absurd hb (h2 e (hall e he))
     ·exact h1
    have:=check_last (B:=B) (w0:=w0) (G:=G) a σ.next (σ.new (.map es))
    exact checkN_mem (by rw [this]; exact ⟨⟨rfl,rfl⟩,⟨rfl,rfl⟩,trivial⟩) x (List.mem_filter.2 ⟨hx1,hlast⟩)
   ·refine hK es (hp.trans ?_)
    have hpd:(e0 :: d0).Perm eff225:=by
     refine (List.perm_ext_iff_of_nodup hn (by decide)).2 fun x => ⟨hs x,hall x⟩
    exact ((hpd.filter _).map ent).trans (by rfl)
  | false =>
   have hnf:∃ e ∈ eff225,e ∉ e0 :: d0:=by
    rw [List.all_eq_false] at hfull
    obtain ⟨e,he,h⟩:=hfull
    exact ⟨e,he,fun h' => h (hcont.2 h')⟩
   have hlast:∀ x,isLast anc225 eff225 x = true -> ∀ d:List Nat,(∀ e ∈ d,e ∈ e0 :: d0) -> eager anc225 eff225 d x.2 = false:=by
    intro x hx d hd
    rw [eager_last hx,List.all_eq_false]
    obtain ⟨e,he,h⟩:=hnf
    exact ⟨e,he,fun h' => h (hd e (hcont.1 h'))⟩
   have hnew:zi225.filter (newly anc225 eff225 (e0 :: d0)) = []:=by
    rw [List.filter_eq_nil_iff]
    intro x hx
    show ¬ (eager anc225 eff225 (e0 :: d0) x.2 && !eager anc225 eff225 d0 x.2) = true
    rcases zi_cases hx with ⟨h1,_⟩ | h1 | h1
    ·rw [eager_eff h1]; simp
    ·rw [eager_build h1,eager_build h1]; simp
    ·rw [hlast x h1 _ (fun _ h => h)]; simp
   rw [hnew]
   refine ⟨checkN_of fun x hx => ?_,allE_of fun x hx => ?_⟩
   ·obtain ⟨hx1,hx2⟩:=List.mem_filter.1 hx
    have hb:isBuild anc225 eff225 x = true:=by
     unfold alive at hx2
     simp only [Bool.and_eq_true,Bool.not_eq_true'] at hx2
     rcases zi_cases hx1 with ⟨h1,_⟩ | h1 | h1
     ·rw [eager_eff h1] at hx2; cases hx2.1
     ·exact h1
     ·rw [hlast x h1 _ (fun _ h => h)] at hx2; cases hx2.1
    exact checkN_mem (checkB_ok (hb_false _) _ (check_build a σ.next (σ.new (.map es)))) x (List.mem_filter.2 ⟨hx1,hb⟩)
   ·obtain ⟨hx1,hx2⟩:=List.mem_filter.1 hx
    unfold avail at hx2
    simp only [Bool.and_eq_true,Bool.not_eq_true'] at hx2
    have hxe:x.2 ∈ eff225:=hcont.1 hx2.1.1
    have hxd:x.2 ∉ e0 :: d0:=fun h => by rw [hcont.2 h] at hx2; cases hx2.1.2
    have hx0:x.2 ≠ 0:=fun h => hxd (h ▸ h0)
    have hins:insB x = true:=by
     rcases zi_cases hx1 with ⟨_,h | h⟩ | h1 | h1
     ·exact absurd h hx0
     ·exact h
     ·unfold isBuild at h1; rw [hx2.1.1] at h1; cases h1
     ·unfold isLast at h1; rw [hx2.1.1] at h1; cases h1
    obtain ⟨hop,hgd,hdst⟩:=insB_ok hins
    have hann:(annA 225).ann 1 x.2 ≠ .frz:=by
     have:(annA 225).ann 1 x.2 = .ref \/ (annA 225).ann 1 x.2 = .none:=by
      rw [ann225_eq]
      unfold ann225
      dsimp only
      generalize (luk ([]:List Nat) [] 1).contains x.2 = q
      cases q
      ·exact .inr rfl
      ·exact .inl rfl
     rcases this with e | e <;> rw [e] <;> simp
    have hkey:=fr225_key a σ.next x.2 hxe hx0
    have hkk:=keys225 B w0 G
    rw [List.all_eq_true] at hkk
    have hk1:=hkk x.2 hxe
    have hb0:Nat.beq x.2 0 = false:=by cases h:Nat.beq x.2 0 with
     | false => rfl
     | true => exact absurd (Nat.eq_of_beq_eq_true h) hx0
    rw [hb0,Bool.false_or,Bool.and_eq_true] at hk1
    have hopF:=insert_op (P:=(EV B w0 G).P) (ann:=(annA 225).ann 1 x.2) (o:=x.1) (ρ:=aval (EV B w0 G).G (fr225 a σ.next).low) (σ:=σ.new (.map es)) (kt:=240) (et:=4) (id:=σ.next) (key:=keyNo x.2) (v:=.bool true) (es:=es)
     hann hop rfl (by show (fr225 a σ.next).low (x.2 / 2 + 1) = _; unfold AAct.low; rw [hkey]; rfl) rfl amap225 hk1.1 (State.new_objs _ _) (fun e he => by
      have he':=hp.subset he
      unfold entries at he'
      rw [List.mem_map] at he'
      obtain ⟨j,hj,rfl⟩:=he'
      rw [List.mem_filter] at hj
      have hk2:=hk1.2
      rw [List.all_eq_true] at hk2
      have hk3:=hk2 j (hs j hj.1)
      have hj0:Nat.beq j 0 = false:=by have:=hj.2; simpa using this
      have hxj:Nat.beq x.2 j = false:=by cases h:Nat.beq x.2 j with
       | false => rfl
       | true => exact absurd (Nat.eq_of_beq_eq_true h) (fun e => hxd (e ▸ hj.1))
      rw [hj0,hxj] at hk3
      simp only [Bool.or_self,Bool.false_or] at hk3
      show aeq Tryz.prog 240 (keyNo x.2) (keyNo j) = some false
      split at hk3
      ·rename_i h; exact h
      ·cases hk3)
    have hgo:∀ (K':Next'),K' (fr225 a σ.next) (σ.new (.map (es ++ [ent x.2]))) -> stepS (EV B w0 G) (selfH (EV B w0 G)) ((annA 225).ann 1 x.2) ops225 x.1 K' (fr225 a σ.next) (σ.new (.map es)):=by
     intro K' hK'
     unfold stepS
     rw [hgd]
     dsimp only
     unfold goS
     rw [hop]
     dsimp only
     unfold genS
     rw [hopF]
     dsimp only
     rw [hdst,State.new_set]
     exact hK'
    refine hgo _ (ih (x.2 :: e0 :: d0) (es ++ [ent x.2]) (List.nodup_cons.2 ⟨hxd,hn⟩) (fun e he => ?_) (List.mem_cons_of_mem _ h0) ?_ (by simp at hf ⊢; omega))
    ·rcases List.mem_cons.1 he with rfl | he
     ·exact hxe
     ·exact hs e he
    ·have:entries (x.2 :: e0 :: d0) = ent x.2 :: entries (e0 :: d0):=by
      unfold entries
      rw [List.filter_cons,hb0]
      rfl
     rw [this]
     exact (List.perm_append_comm.trans (by exact (hp.cons _)))

theorem draw225_all {K:Next'} {a:AAct} {σ:State} (hK:∀ es,es.Perm tbl225 -> K (frE a σ.next) (σ.new (.map es))) :
  drawS (EV B w0 G) (selfH (EV B w0 G)) (annA 225) 1 ops225 anc225 eff225 12 [] K a σ:=by
 unfold drawS
 rw [<-zi225_eq,run_first]
 refine ⟨rfl,rfl,rfl,rfl,rfl,rfl,rfl,rfl,rfl,rfl,checkN_of fun x hx => ?_,?_⟩
 ·obtain ⟨hx1,hx2⟩:=List.mem_filter.1 hx
  have hb:isBuild anc225 eff225 x = true:=by
   unfold alive at hx2
   simp only [Bool.and_eq_true,Bool.not_eq_true'] at hx2
   rcases zi_cases hx1 with ⟨h1,_⟩ | h1 | h1
   ·rw [eager_eff h1] at hx2; cases hx2.1
   ·exact h1
   ·rw [eager_last h1] at hx2; exact absurd hx2.1 (by decide)
  exact checkN_mem (checkB_ok (hb_false _) _ (check_first a σ)) x (List.mem_filter.2 ⟨hx1,hb⟩)
 ·show allE _ _
  rw [first_maker (fun i a'' σ'' => drawS (EV B w0 G) (selfH (EV B w0 G)) (annA 225) 1 ops225 anc225 eff225 11 [i] K a'' σ'')]
  exact draw225 hK 11 [0] [] (by decide) (by decide) (by decide) (by exact .refl _) (by decide)
end
end Go.V
/- The map of reserved symbols, known up to its order. -/
namespace Go.V
open Go.RowKit Go.Proofs

noncomputable def ops225a:Array Oper:=match Tryz.prog.funcs[225]? with
 | some fn => match fn.body with
  | some c => (findR 0 c).getD #[]
  | none => #[]
 | none => #[]

theorem fn225:Tryz.prog.funcs[225]? = some Tryz.f225:=by kernel_rfl
theorem body225:Tryz.f225.body = some (.seq (.region 0 ops225a false) (.seq (.region 1 ops225 true) .ret)):=by kernel_rfl

theorem ACalls.tell {E:Env} {f:Nat} {args:List AV} {σ:State} {Q Q':AV -> State -> Prop} (h:ACalls E f args σ Q) (hq:∀ v σ',Q v σ' -> ∃ σ'',(∀ g w,Sim E.B E.w0 g σ' w -> Sim E.B E.w0 g σ'' w) /\ Q' v σ''):ACalls E f args σ Q' :=
 ⟨fun g w vs hG hS hv => (h.run g w vs hG hS hv).mono fun e w' k => by
  cases e with
  | returned u =>
   obtain ⟨g',σ',a,h1,h2,h3,h4⟩:=k
   obtain ⟨σ'',h5,h6⟩:=hq _ _ h4
   exact ⟨g',σ'',a,h1,h5 _ _ h2,h3,h6⟩
  | outgrown => exact k
  | panicked c => exact k⟩

section
variable {B:Nat} {w0:World} {G:Nat -> AV}

theorem ops225a_run (K:Next') (a:AAct) (σ:State):opsS (EV B w0 G) (selfH (EV B w0 G)) (annA 225) 0 ops225a ops225a.toList 0 K a σ = K (a.put (some 0) (.v .nilmap)) σ:=by kernel_rfl
theorem res225 (a:AAct) (i:Nat) (σ:State):ares (EV B w0 G).P (frE a i) σ Tryz.f225.results.toList = some (.map i):=by kernel_rfl
theorem reg225a:regOk Tryz.f225.ntmps ops225a = true:=by kernel_rfl
theorem reg225:regOk Tryz.f225.ntmps ops225 = true:=by kernel_rfl
theorem drawOk225:drawOk anc225 eff225 ops225 = true:=by kernel_rfl

theorem fixed_ok {σ:State} {Q:AV -> State -> Prop} (hQ:Q (.map σ.next) (σ.new (.cmap tbl225))):ACalls (EV B w0 G) 225 [] σ Q:=by
 have h1:ACalls (EV B w0 G) 225 [] σ (fun v σ' => v = .map σ.next /\ ∃ es,es.Perm tbl225 /\ σ' = σ.new (.map es)):=by
  refine acalls_body (E:=EV B w0 G) fn225 body225 (Nat.zero_le _) (awp_seq (awp_region (an:=annA 225) (hok_self _) reg225a ?_))
  rw [ops225a_run]
  refine awp_seq (awp_draw (an:=annA 225) (hok_self _) (EV_mixed B w0 G) reg225 drawOk225 (draw225_all fun es hes => awp_ret ?_))
  exact ⟨_,_,_,res225 _ _ _,.refl _,.refl _,rfl,es,hes,rfl⟩
 refine h1.tell fun v σ' k => ?_
 obtain ⟨rfl,es,hes,rfl⟩:=k
 refine ⟨σ.new (.cmap tbl225),fun g w hS => ?_,hQ⟩
 have ho:=hS.objs σ.next
 rw [State.new_objs] at ho
 obtain ⟨i,ms,clock,h1,h2,h3,h4,h5⟩:=ho
 have:=hS.retell (id:=σ.next) (o':=.cmap tbl225) (by rw [State.new_objs]; simp) ⟨i,ms,clock,es,h1,h2,h3,h4,h5,hes⟩
 rw [State.new_set] at this
 exact this

def fixedB:HandB:=fun t args σ Q => match t,args with
 | .fn f,[] => Nat.beq f 225 && Q (.map σ.next) (σ.new (.cmap tbl225))
 | _,_ => false
theorem fixedB_ok:HBOk (EV B w0 G) fixedB:=fun t args σ Q h => by
 unfold fixedB at h
 split at h
 ·rw [Bool.and_eq_true] at h
  have:=Nat.eq_of_beq_eq_true h.1
  subst this
  exact fixed_ok h.2
 ·cases h

def pureB (f:Nat) (tab:List (List AV × AV)):HandB:=fun t args σ Q => match t with
 | .fn f' => Nat.beq f' f && (match tab.find? (fun p => AV.sameL p.1 args) with
  | some p => Q p.2 σ.untok
  | none => false)
 | _ => false

noncomputable def cameB (lit:AV) (v:AV) (σ:State):Bool :=
 match deep Tryz.prog σ 60 v with
 | some v' => AV.same v' lit
 | none => false

theorem pureB_ok {f:Nat} {tab:List (List AV × AV)} (hG:∀ i,NoId (G i)) (h:∀ p ∈ tab,noIdL p.1 = true /\ noIdB p.2 = true /\ ACalls (EV B w0 G) f p.1 noObj (fun v σ' => cameB p.2 v σ' = true)):HBOk (EV B w0 G) (pureB f tab):=fun t args σ Q hq => by
 unfold pureB at hq
 split at hq
 ·rw [Bool.and_eq_true] at hq
  have:=Nat.eq_of_beq_eq_true hq.1
  subst this
  have h2:=hq.2
  split at h2
  ·rename_i p hp
   have hm:=List.mem_of_find?_eq_some hp
   have hs:=List.find?_some hp
   obtain ⟨k1,k2,k3⟩:=h p hm
   have:=AV.sameL_ok _ _ hs
   subst this
   refine ACalls.pureD 60 hG (noIdL_ok _ k1).1 k3 fun v σ' k => ?_
   unfold cameB at k
   split at k
   ·rename_i v' hv'
    have:=AV.same_ok _ _ k
    subst this
    exact ⟨_,_,hv',.refl _,(noIdB_ok _ k2).1,h2⟩
   ·cases k
  ·cases h2
 ·cases hq

def G1:Nat -> AV
 | 0 => .vptr [.str ⟨#[43]⟩,.str ⟨#[45]⟩,.str ⟨#[42]⟩,.str ⟨#[47]⟩,.str ⟨#[109,111,100]⟩,.str ⟨#[45]⟩]
 | _ + 1 => .undef
theorem G1_noId:∀ i,NoId (G1 i)
 | 0 => (noIdB_ok (.vptr [.str ⟨#[43]⟩,.str ⟨#[45]⟩,.str ⟨#[42]⟩,.str ⟨#[47]⟩,.str ⟨#[109,111,100]⟩,.str ⟨#[45]⟩]) rfl).1
 | _ + 1 => .undef
end
end Go.V
/- Tables: what is known of some calls without objects. -/
namespace Go.V
def at1 (s:UInt8):AV:=.agg [.int .i64 3,.int .i64 0,.str ⟨#[s]⟩,.nilslice]
def L1 (xs:List AV):AV:=.slice 4 xs .full
def clause0:List AV:=[(.agg [(.int .i64 0),(.int .i64 1),(.slice 4 [(.agg [(.int .i64 1),(.int .i64 0),(.str ⟨⟨[]⟩⟩),.nilslice])] .full),.nilslice,(.slice 4 [(.agg [(.int .i64 5),(.int .i64 0),(.str ⟨⟨[61]⟩⟩),(.slice 4 [(.agg [(.int .i64 1),(.int .i64 0),(.str ⟨⟨[]⟩⟩),.nilslice]),(.agg [(.int .i64 3),(.int .i64 0),(.str ⟨⟨[91,93]⟩⟩),.nilslice])] .full)])] .full)]),.int .i64 1]
def clause1:List AV:=[(.agg [(.int .i64 0),(.int .i64 4),(.slice 4 [(.agg [(.int .i64 5),(.int .i64 0),(.str ⟨⟨[46]⟩⟩),(.slice 4 [(.agg [(.int .i64 1),(.int .i64 0),(.str ⟨⟨[]⟩⟩),.nilslice]),(.agg [(.int .i64 1),(.int .i64 1),(.str ⟨⟨[]⟩⟩),.nilslice])] .full)]),(.agg [(.int .i64 1),(.int .i64 2),(.str ⟨⟨[]⟩⟩),.nilslice])] .nn),.nilslice,(.slice 4 [(.agg [(.int .i64 5),(.int .i64 0),(.str ⟨⟨[61]⟩⟩),(.slice 4 [(.agg [(.int .i64 1),(.int .i64 2),(.str ⟨⟨[]⟩⟩),.nilslice]),(.agg [(.int .i64 5),(.int .i64 0),(.str ⟨⟨[46]⟩⟩),(.slice 4 [(.agg [(.int .i64 1),(.int .i64 0),(.str ⟨⟨[]⟩⟩),.nilslice]),(.agg [(.int .i64 1),(.int .i64 3),(.str ⟨⟨[]⟩⟩),.nilslice])] .full)])] .full)]),(.agg [(.int .i64 5),(.int .i64 0),(.str ⟨⟨[109,101,114,103,101]⟩⟩),(.slice 4 [(.agg [(.int .i64 1),(.int .i64 1),(.str ⟨⟨[]⟩⟩),.nilslice]),(.agg [(.int .i64 1),(.int .i64 3),(.str ⟨⟨[]⟩⟩),.nilslice])] .nn)])] .full)]),.int .i64 2]
def clause2:List AV:=[(.agg [(.int .i64 0),(.int .i64 1),(.slice 4 [(.agg [(.int .i64 3),(.int .i64 0),(.str ⟨⟨[91,93]⟩⟩),.nilslice]),(.agg [(.int .i64 1),(.int .i64 0),(.str ⟨⟨[]⟩⟩),.nilslice])] .nn),.nilslice,(.slice 4 [(.agg [(.int .i64 5),(.int .i64 0),(.str ⟨⟨[109,101,114,103,101]⟩⟩),(.slice 4 [(.agg [(.int .i64 1),(.int .i64 0),(.str ⟨⟨[]⟩⟩),.nilslice])] .nn)])] .full)]),.int .i64 2]
def clause3:List AV:=[(.agg [(.int .i64 0),(.int .i64 5),(.slice 4 [(.agg [(.int .i64 5),(.int .i64 0),(.str ⟨⟨[46]⟩⟩),(.slice 4 [(.agg [(.int .i64 1),(.int .i64 0),(.str ⟨⟨[]⟩⟩),.nilslice]),(.agg [(.int .i64 1),(.int .i64 1),(.str ⟨⟨[]⟩⟩),.nilslice])] .full)]),(.agg [(.int .i64 1),(.int .i64 2),(.str ⟨⟨[]⟩⟩),.nilslice]),(.agg [(.int .i64 1),(.int .i64 3),(.str ⟨⟨[]⟩⟩),.nilslice])] .nn),.nilslice,(.slice 4 [(.agg [(.int .i64 5),(.int .i64 0),(.str ⟨⟨[61]⟩⟩),(.slice 4 [(.agg [(.int .i64 1),(.int .i64 3),(.str ⟨⟨[]⟩⟩),.nilslice]),(.agg [(.int .i64 5),(.int .i64 0),(.str ⟨⟨[46]⟩⟩),(.slice 4 [(.agg [(.int .i64 1),(.int .i64 0),(.str ⟨⟨[]⟩⟩),.nilslice]),(.agg [(.int .i64 1),(.int .i64 4),(.str ⟨⟨[]⟩⟩),.nilslice])] .full)])] .full)]),(.agg [(.int .i64 5),(.int .i64 0),(.str ⟨⟨[109,101,114,103,101]⟩⟩),(.slice 4 [(.agg [(.int .i64 1),(.int .i64 1),(.str ⟨⟨[]⟩⟩),.nilslice]),(.agg [(.int .i64 1),(.int .i64 2),(.str ⟨⟨[]⟩⟩),.nilslice]),(.agg [(.int .i64 1),(.int .i64 4),(.str ⟨⟨[]⟩⟩),.nilslice])] .nn)])] .full)]),.int .i64 3]
def clause4:List AV:=[(.agg [(.int .i64 0),(.int .i64 5),(.slice 4 [(.agg [(.int .i64 1),(.int .i64 0),(.str ⟨⟨[]⟩⟩),.nilslice]),(.agg [(.int .i64 5),(.int .i64 0),(.str ⟨⟨[46]⟩⟩),(.slice 4 [(.agg [(.int .i64 1),(.int .i64 1),(.str ⟨⟨[]⟩⟩),.nilslice]),(.agg [(.int .i64 1),(.int .i64 2),(.str ⟨⟨[]⟩⟩),.nilslice])] .full)]),(.agg [(.int .i64 1),(.int .i64 3),(.str ⟨⟨[]⟩⟩),.nilslice])] .nn),.nilslice,(.slice 4 [(.agg [(.int .i64 5),(.int .i64 0),(.str ⟨⟨[61]⟩⟩),(.slice 4 [(.agg [(.int .i64 1),(.int .i64 3),(.str ⟨⟨[]⟩⟩),.nilslice]),(.agg [(.int .i64 5),(.int .i64 0),(.str ⟨⟨[46]⟩⟩),(.slice 4 [(.agg [(.int .i64 1),(.int .i64 1),(.str ⟨⟨[]⟩⟩),.nilslice]),(.agg [(.int .i64 1),(.int .i64 4),(.str ⟨⟨[]⟩⟩),.nilslice])] .full)])] .full)]),(.agg [(.int .i64 5),(.int .i64 0),(.str ⟨⟨[109,101,114,103,101]⟩⟩),(.slice 4 [(.agg [(.int .i64 1),(.int .i64 0),(.str ⟨⟨[]⟩⟩),.nilslice]),(.agg [(.int .i64 1),(.int .i64 2),(.str ⟨⟨[]⟩⟩),.nilslice]),(.agg [(.int .i64 1),(.int .i64 4),(.str ⟨⟨[]⟩⟩),.nilslice])] .nn)])] .full)]),.int .i64 3]
def clause5:List AV:=[(.agg [(.int .i64 0),(.int .i64 2),(.slice 4 [(.agg [(.int .i64 3),(.int .i64 0),(.str ⟨⟨[91,93]⟩⟩),.nilslice]),(.agg [(.int .i64 1),(.int .i64 0),(.str ⟨⟨[]⟩⟩),.nilslice]),(.agg [(.int .i64 1),(.int .i64 1),(.str ⟨⟨[]⟩⟩),.nilslice])] .nn),.nilslice,(.slice 4 [(.agg [(.int .i64 5),(.int .i64 0),(.str ⟨⟨[109,101,114,103,101]⟩⟩),(.slice 4 [(.agg [(.int .i64 1),(.int .i64 0),(.str ⟨⟨[]⟩⟩),.nilslice]),(.agg [(.int .i64 1),(.int .i64 1),(.str ⟨⟨[]⟩⟩),.nilslice])] .nn)])] .full)]),.int .i64 3]
def clause6:List AV:=[(.agg [(.int .i64 0),(.int .i64 2),(.slice 4 [(.agg [(.int .i64 1),(.int .i64 0),(.str ⟨⟨[]⟩⟩),.nilslice]),(.agg [(.int .i64 3),(.int .i64 0),(.str ⟨⟨[91,93]⟩⟩),.nilslice]),(.agg [(.int .i64 1),(.int .i64 1),(.str ⟨⟨[]⟩⟩),.nilslice])] .nn),.nilslice,(.slice 4 [(.agg [(.int .i64 5),(.int .i64 0),(.str ⟨⟨[109,101,114,103,101]⟩⟩),(.slice 4 [(.agg [(.int .i64 1),(.int .i64 0),(.str ⟨⟨[]⟩⟩),.nilslice]),(.agg [(.int .i64 1),(.int .i64 1),(.str ⟨⟨[]⟩⟩),.nilslice])] .nn)])] .full)]),.int .i64 3]
def tab214:List (List AV × AV):=[(clause0,.bool true),(clause1,.bool true),(clause2,.bool true),(clause3,.bool true),(clause4,.bool true),(clause5,.bool true),(clause6,.bool true)]
def prog2:AV:=(.agg [(.slice 3 [(.agg [(.str ⟨⟨[109,101,114,103,101]⟩⟩),(.int .i64 1),(.slice 5 [(.agg [(.int .i64 0),(.int .i64 1),(.slice 4 [(.agg [(.int .i64 1),(.int .i64 0),(.str ⟨⟨[]⟩⟩),.nilslice])] .full),.nilslice,(.slice 4 [(.agg [(.int .i64 5),(.int .i64 0),(.str ⟨⟨[61]⟩⟩),(.slice 4 [(.agg [(.int .i64 1),(.int .i64 0),(.str ⟨⟨[]⟩⟩),.nilslice]),(.agg [(.int .i64 3),(.int .i64 0),(.str ⟨⟨[91,93]⟩⟩),.nilslice])] .full)])] .full)])] .full)]),(.agg [(.str ⟨⟨[109,101,114,103,101]⟩⟩),(.int .i64 2),(.slice 5 [(.agg [(.int .i64 0),(.int .i64 4),(.slice 4 [(.agg [(.int .i64 5),(.int .i64 0),(.str ⟨⟨[46]⟩⟩),(.slice 4 [(.agg [(.int .i64 1),(.int .i64 0),(.str ⟨⟨[]⟩⟩),.nilslice]),(.agg [(.int .i64 1),(.int .i64 1),(.str ⟨⟨[]⟩⟩),.nilslice])] .full)]),(.agg [(.int .i64 1),(.int .i64 2),(.str ⟨⟨[]⟩⟩),.nilslice])] .nn),.nilslice,(.slice 4 [(.agg [(.int .i64 5),(.int .i64 0),(.str ⟨⟨[61]⟩⟩),(.slice 4 [(.agg [(.int .i64 1),(.int .i64 2),(.str ⟨⟨[]⟩⟩),.nilslice]),(.agg [(.int .i64 5),(.int .i64 0),(.str ⟨⟨[46]⟩⟩),(.slice 4 [(.agg [(.int .i64 1),(.int .i64 0),(.str ⟨⟨[]⟩⟩),.nilslice]),(.agg [(.int .i64 1),(.int .i64 3),(.str ⟨⟨[]⟩⟩),.nilslice])] .full)])] .full)]),(.agg [(.int .i64 5),(.int .i64 0),(.str ⟨⟨[109,101,114,103,101]⟩⟩),(.slice 4 [(.agg [(.int .i64 1),(.int .i64 1),(.str ⟨⟨[]⟩⟩),.nilslice]),(.agg [(.int .i64 1),(.int .i64 3),(.str ⟨⟨[]⟩⟩),.nilslice])] .nn)])] .full)]),(.agg [(.int .i64 0),(.int .i64 1),(.slice 4 [(.agg [(.int .i64 3),(.int .i64 0),(.str ⟨⟨[91,93]⟩⟩),.nilslice]),(.agg [(.int .i64 1),(.int .i64 0),(.str ⟨⟨[]⟩⟩),.nilslice])] .nn),.nilslice,(.slice 4 [(.agg [(.int .i64 5),(.int .i64 0),(.str ⟨⟨[109,101,114,103,101]⟩⟩),(.slice 4 [(.agg [(.int .i64 1),(.int .i64 0),(.str ⟨⟨[]⟩⟩),.nilslice])] .nn)])] .full)])] .nn)]),(.agg [(.str ⟨⟨[109,101,114,103,101]⟩⟩),(.int .i64 3),(.slice 5 [(.agg [(.int .i64 0),(.int .i64 5),(.slice 4 [(.agg [(.int .i64 5),(.int .i64 0),(.str ⟨⟨[46]⟩⟩),(.slice 4 [(.agg [(.int .i64 1),(.int .i64 0),(.str ⟨⟨[]⟩⟩),.nilslice]),(.agg [(.int .i64 1),(.int .i64 1),(.str ⟨⟨[]⟩⟩),.nilslice])] .full)]),(.agg [(.int .i64 1),(.int .i64 2),(.str ⟨⟨[]⟩⟩),.nilslice]),(.agg [(.int .i64 1),(.int .i64 3),(.str ⟨⟨[]⟩⟩),.nilslice])] .nn),.nilslice,(.slice 4 [(.agg [(.int .i64 5),(.int .i64 0),(.str ⟨⟨[61]⟩⟩),(.slice 4 [(.agg [(.int .i64 1),(.int .i64 3),(.str ⟨⟨[]⟩⟩),.nilslice]),(.agg [(.int .i64 5),(.int .i64 0),(.str ⟨⟨[46]⟩⟩),(.slice 4 [(.agg [(.int .i64 1),(.int .i64 0),(.str ⟨⟨[]⟩⟩),.nilslice]),(.agg [(.int .i64 1),(.int .i64 4),(.str ⟨⟨[]⟩⟩),.nilslice])] .full)])] .full)]),(.agg [(.int .i64 5),(.int .i64 0),(.str ⟨⟨[109,101,114,103,101]⟩⟩),(.slice 4 [(.agg [(.int .i64 1),(.int .i64 1),(.str ⟨⟨[]⟩⟩),.nilslice]),(.agg [(.int .i64 1),(.int .i64 2),(.str ⟨⟨[]⟩⟩),.nilslice]),(.agg [(.int .i64 1),(.int .i64 4),(.str ⟨⟨[]⟩⟩),.nilslice])] .nn)])] .full)]),(.agg [(.int .i64 0),(.int .i64 5),(.slice 4 [(.agg [(.int .i64 1),(.int .i64 0),(.str ⟨⟨[]⟩⟩),.nilslice]),(.agg [(.int .i64 5),(.int .i64 0),(.str ⟨⟨[46]⟩⟩),(.slice 4 [(.agg [(.int .i64 1),(.int .i64 1),(.str ⟨⟨[]⟩⟩),.nilslice]),(.agg [(.int .i64 1),(.int .i64 2),(.str ⟨⟨[]⟩⟩),.nilslice])] .full)]),(.agg [(.int .i64 1),(.int .i64 3),(.str ⟨⟨[]⟩⟩),.nilslice])] .nn),.nilslice,(.slice 4 [(.agg [(.int .i64 5),(.int .i64 0),(.str ⟨⟨[61]⟩⟩),(.slice 4 [(.agg [(.int .i64 1),(.int .i64 3),(.str ⟨⟨[]⟩⟩),.nilslice]),(.agg [(.int .i64 5),(.int .i64 0),(.str ⟨⟨[46]⟩⟩),(.slice 4 [(.agg [(.int .i64 1),(.int .i64 1),(.str ⟨⟨[]⟩⟩),.nilslice]),(.agg [(.int .i64 1),(.int .i64 4),(.str ⟨⟨[]⟩⟩),.nilslice])] .full)])] .full)]),(.agg [(.int .i64 5),(.int .i64 0),(.str ⟨⟨[109,101,114,103,101]⟩⟩),(.slice 4 [(.agg [(.int .i64 1),(.int .i64 0),(.str ⟨⟨[]⟩⟩),.nilslice]),(.agg [(.int .i64 1),(.int .i64 2),(.str ⟨⟨[]⟩⟩),.nilslice]),(.agg [(.int .i64 1),(.int .i64 4),(.str ⟨⟨[]⟩⟩),.nilslice])] .nn)])] .full)]),(.agg [(.int .i64 0),(.int .i64 2),(.slice 4 [(.agg [(.int .i64 3),(.int .i64 0),(.str ⟨⟨[91,93]⟩⟩),.nilslice]),(.agg [(.int .i64 1),(.int .i64 0),(.str ⟨⟨[]⟩⟩),.nilslice]),(.agg [(.int .i64 1),(.int .i64 1),(.str ⟨⟨[]⟩⟩),.nilslice])] .nn),.nilslice,(.slice 4 [(.agg [(.int .i64 5),(.int .i64 0),(.str ⟨⟨[109,101,114,103,101]⟩⟩),(.slice 4 [(.agg [(.int .i64 1),(.int .i64 0),(.str ⟨⟨[]⟩⟩),.nilslice]),(.agg [(.int .i64 1),(.int .i64 1),(.str ⟨⟨[]⟩⟩),.nilslice])] .nn)])] .full)]),(.agg [(.int .i64 0),(.int .i64 2),(.slice 4 [(.agg [(.int .i64 1),(.int .i64 0),(.str ⟨⟨[]⟩⟩),.nilslice]),(.agg [(.int .i64 3),(.int .i64 0),(.str ⟨⟨[91,93]⟩⟩),.nilslice]),(.agg [(.int .i64 1),(.int .i64 1),(.str ⟨⟨[]⟩⟩),.nilslice])] .nn),.nilslice,(.slice 4 [(.agg [(.int .i64 5),(.int .i64 0),(.str ⟨⟨[109,101,114,103,101]⟩⟩),(.slice 4 [(.agg [(.int .i64 1),(.int .i64 0),(.str ⟨⟨[]⟩⟩),.nilslice]),(.agg [(.int .i64 1),(.int .i64 1),(.str ⟨⟨[]⟩⟩),.nilslice])] .nn)])] .full)])] .nn)])] .nn)])
def query2:AV:=(.tuple [(.agg [(.int .i64 1),(.slice 4 [(.agg [(.int .i64 5),(.int .i64 0),(.str ⟨⟨[109,101,114,103,101]⟩⟩),(.slice 4 [(.agg [(.int .i64 5),(.int .i64 0),(.str ⟨⟨[46]⟩⟩),(.slice 4 [(.agg [(.int .i64 3),(.int .i64 0),(.str ⟨⟨[97]⟩⟩),.nilslice]),(.agg [(.int .i64 3),(.int .i64 0),(.str ⟨⟨[91,93]⟩⟩),.nilslice])] .nn)]),(.agg [(.int .i64 5),(.int .i64 0),(.str ⟨⟨[46]⟩⟩),(.slice 4 [(.agg [(.int .i64 3),(.int .i64 0),(.str ⟨⟨[98]⟩⟩),.nilslice]),(.agg [(.int .i64 3),(.int .i64 0),(.str ⟨⟨[91,93]⟩⟩),.nilslice])] .nn)]),(.agg [(.int .i64 1),(.int .i64 0),(.str ⟨⟨[]⟩⟩),.nilslice])] .nn)])] .full)]),(.int .i64 0)])
def tab69:List (List AV × AV):=[([.int .i64 2],prog2)]
def args75:List AV:=[.slice 1 [L1 [at1 97],L1 [at1 98]] .full]
def tab75:List (List AV × AV):=[(args75,query2)]
def args18:List AV:=[.slice 1 [L1 [at1 97,at1 98],L1 [at1 97]] .full,L1 [at1 97,at1 97,at1 98]]
def res18:AV:=.tuple [.slice 1 [.int .i64 0,.int .i64 1,.int .i64 0] .nn,.bool true,.int .i64 0]
def tab18:List (List AV × AV):=[(args18,res18)]
def tab66:List (List AV × AV):=[([at1 97],.int .i64 0),([at1 98],.int .i64 0),([at1 99],.int .i64 0)]
noncomputable def T0:Nat -> Option HandB:=luk none [(225,some fixedB)]
noncomputable def T1:Nat -> Option HandB:=luk none [(225,some fixedB),(214,some (pureB 214 tab214)),(69,some (pureB 69 tab69))]
noncomputable def T3:Nat -> Option HandB:=luk none [(225,some fixedB),(75,some (pureB 75 tab75)),(18,some (pureB 18 tab18)),(66,some (pureB 66 tab66))]

theorem luk_ok {E:Env}:∀ {l:List (Nat × Option HandB)} {f:Nat} {h:HandB},(∀ p ∈ l,∀ h,p.2 = some h -> HBOk E h) -> luk none l f = some h -> HBOk E h
 | [],_,_,_,e => by cases e
 | (k,v) :: l,f,h,hp,e => by
  unfold luk at e
  split at e
  ·exact hp (k,v) (by simp) h e
  ·exact luk_ok (fun p hm => hp p (by simp [hm])) e

theorem run_ok {B:Nat} {w0:World} {T:Nat -> Option HandB} (hT:∀ f h,T f = some h -> HBOk (EV B w0 G1) h) {f:Nat} {args:List AV} {lit:AV}
  (h:callB (EV B w0 G1) annA T 300 200 (.fn f) args noObj (cameB lit) = true):ACalls (EV B w0 G1) f args noObj (fun v σ' => cameB lit v σ' = true) :=
 callB_ok (EV_mixed B w0 G1) hT 200 (.fn f) args noObj _ h

theorem T0_ok (B:Nat) (w0:World):∀ f h,T0 f = some h -> HBOk (EV B w0 G1) h:=fun f h e => luk_ok (fun p hp h e => by
 simp only [List.mem_cons,List.not_mem_nil,or_false] at hp
 subst hp
 cases e; exact fixedB_ok) e
end Go.V
