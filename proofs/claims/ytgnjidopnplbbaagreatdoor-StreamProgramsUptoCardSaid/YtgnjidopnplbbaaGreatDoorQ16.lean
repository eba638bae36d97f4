/- A part of the proof of the statement S8 (texts brought together and shortened by a program of this work). -/
import Derived.Test.YtgnjidopnplbbaaGreatDoorQ11
import Derived.ProofKit
import Derived.LaidLaws
import Derived.LaidHandle
import Derived.Test.YtgnjidopnplbbaaGreatDoorRows
import Derived.ChangeSame
import Derived.ChangeVars
import Derived.JoinedOf
import Derived.Carry
import Derived.OpenShut
import Derived.Deep.DeepHandedRow
set_option maxRecDepth 100000
set_option linter.unusedVariables false
set_option linter.unusedSimpArgs false
set_option linter.unusedSectionVars false
namespace Go.V
open Go Go.Proofs

def zOH (W:World):zA2:=⟨fun b o=>W.cell? ⟨b,o,none⟩,fun _=>none,fun _=>none⟩

theorem sim0 (W:World):Sim W.heap.size W (zOH W) zJZ W where
 below:=Go.RowKit.Below.refl _ _
 size:=Nat.le_refl _
 froz b o v h:=h
 objs id:=trivial
 inj i j pi pj h1:=by cases h1
 next id h:=⟨rfl,rfl⟩
 res b x h:=by cases h
 resF b o x h:=by cases h
 resO id i h1 h2:=by cases h2

section
variable {H:Type} {enc:TypeId×Value->H} {P:Program} {W:World} {sp:Nat->Bool} {held:Bool}
open Go.Proofs.YtgnjidopnplbbaaGreatDoor.Rows (uptoBulk uptoBulkAll)

def zOI (enc:TypeId×Value->H) (P:Program) (W:World) (sp:Nat->Bool) (held:Bool) (n:Nat) (t:TypeId) {α:Type} (f:α->List AV) (wt:α->Nat):Prop :=
 ∀ cs d p,DataW.trod enc P W 0 sp held n t cs=some (d,p)->∃ a,RVL (zOH W) (f a) cs/\wt a<=uptoBulk d

theorem zOJ {t:TypeId} {α:Type} {f:α->List AV} {wt:α->Nat}:zOI enc P W sp held 0 t f wt:=fun cs d p h=>by
 simp [DataW.trod] at h

theorem zOK {n:Nat} {t:TypeId} {k:IntKind} (hu:P.underlying t=some (.int k)):zOI enc P W sp held n t (fun x:Int=>[.int k x]) (fun _=>1):=fun cs d p h=>by
 obtain ⟨x,rfl,e,_⟩:=DataW.trod_int hu h
 obtain rfl:=(Prod.mk.inj e).1
 exact ⟨x,.cons (.int _ _) (.nil _),Nat.le_refl 1⟩
theorem pull_str {n:Nat} {t:TypeId} (hu:P.underlying t=some .string):zOI enc P W sp held n t (fun x:ByteArray=>[.str x]) (fun x=>x.size+1):=fun cs d p h=>by
 obtain ⟨x,rfl,e,_⟩:=DataW.trod_string hu h
 obtain rfl:=(Prod.mk.inj e).1
 exact ⟨x,.cons (.str _) (.nil _),by
  have h:x.data.toList.length=x.size:=Array.length_toList
  show x.size+1<=x.data.toList.length+1
  omega⟩

def zOL (W:World) (b o:Nat) (vs:List Value):Prop:=∀ i (h:i<vs.length),W.cell? ⟨b,o+i,none⟩=some vs[i]
theorem zOL.append {b o:Nat} {us vs:List Value} (h:zOL W b o us) (k:zOL W b (o+us.length) vs):zOL W b o (us++vs):=fun i hi=>by
 by_cases h1:i<us.length
 ·rw [List.getElem_append_left h1]; exact h i h1
 ·rw [List.getElem_append_right (by omega)]
  have:=k (i - us.length) (by simp at hi; omega)
  rw [show o+us.length+(i - us.length)=o+i by omega] at this
  exact this
theorem zOM {a:Addr} {i n:Nat} {cs:List Value} (h:W.cells? 0 (a.add i) n=some cs) (hn:0<n) (h0:i=0->a.spot=none):cs.length=n/\zOL W a.block (a.off+i) cs:=by
 obtain ⟨_,hl,hc⟩:=World.cells?_some h
 refine ⟨hl,fun j hj => ?_⟩
 have h1:=hc j (by omega)
 rw [List.getElem?_eq_getElem hj] at h1
 have:(a.add i).add j=⟨a.block,a.off+i+j,none⟩:=by
  unfold Addr.add
  by_cases hi:i=0
  ·subst hi
   have hs:=h0 rfl
   obtain ⟨b,o,s⟩:=a
   simp only at hs
   subst hs
   by_cases hj0:j=0
   ·subst hj0; rfl
   ·simp [hj0]
  ·rw [if_neg hi]
   by_cases hj0:j=0
   ·subst hj0; rfl
   ·simp [hj0]
 rw [this] at h1
 exact h1

theorem zON {α:Type} {f:α->List AV} {wt:α->Nat} {mk:α->AV} {n sz:Nat} {e:TypeId} (hsz:P.cellsOf e=sz) (h0:0<sz) (hp:zOI enc P W sp held n e f wt) (hmk:∀ a,(mk a).cells=f a)
  {a:Addr} (hs:a.spot=none):∀ (xs:List (DataW H×List MemPlace)) (k:Nat),
  (∀ i (h:i<xs.length),(W.cells? 0 (a.add ((k+i)*P.cellsOf e)) (P.cellsOf e)).bind (DataW.trod enc P W 0 sp held n e)=some xs[i]) ->
  ∃ (l:List α) (vs:List Value),l.length=xs.length/\vs.length=xs.length*sz/\zOL W a.block (a.off+k*sz) vs/\RVL (zOH W) (zA0 (l.map mk)) vs/\(l.map wt).sum<=uptoBulkAll (xs.map (·.1))
 | [],k,h=>⟨[],[],rfl,by simp,fun i h=>by simp at h,RVL.nil _,Nat.zero_le _⟩
 | x :: xs,k,h=>by
  have hx:=h 0 (by simp)
  simp only [List.getElem_cons_zero] at hx
  obtain ⟨l,vs,h1,h2,h3,h4,h5⟩:=zON hsz h0 hp hmk hs xs (k+1) fun i hi=>by
   have:=h (i+1) (by simpa using hi)
   rw [show k+(i+1)=k+1+i by omega] at this
   exact this
  rw [hsz,Option.bind_eq_some_iff] at hx
  obtain ⟨cs,hc,ht⟩:=hx
  obtain ⟨c1,c2⟩:=zOM hc h0 fun _=>hs
  obtain ⟨a0,ha,hw⟩:=hp cs x.1 x.2 ht
  refine ⟨a0 :: l,cs++vs,by simp [h1],by simp [h2,c1,Nat.add_mul]; omega,c2.append ?_,?_,?_⟩
  ·rw [c1]
   have e:a.off+(k+0)*sz+sz=a.off+(k+1)*sz:=by simp only [Nat.add_mul,Nat.zero_mul,Nat.one_mul]; omega
   rw [e]
   exact h3
  ·have:zA0 ((a0 :: l).map mk)=f a0++zA0 (l.map mk):=by simp [zA0,hmk]
   rw [this]
   exact ha.append h4
  ·simp only [List.map_cons,List.sum_cons]
   have:uptoBulkAll (x.1 :: xs.map (·.1))=uptoBulk x.1+uptoBulkAll (xs.map (·.1)):=by rw [uptoBulkAll]
   rw [this]; omega

theorem zOO {α:Type} {f:α->List AV} {wt:α->Nat} {mk:α->AV} {n sz:Nat} {t e:TypeId} (hu:P.underlying t=some (.slice e)) (hsz:P.cellsOf e=sz) (h0:0<sz) (hmk:∀ a,(mk a).cells=f a) (hfl:∀ a,(f a).length=sz)
  (hone:∀ a,(f a).all AV.one=true) (hp:zOI enc P W sp held n e f wt):zOI enc P W sp held (n+1) t (fun l:List α=>[.slice sz (l.map mk) .any]) (fun l=>(l.map wt).sum+1):=fun cs d p h=>by
 rcases DataW.trod_slice hu h with ⟨rfl,ed⟩ | ⟨a,len,cap,elems,rest,m,hn,rfl,ed,_,hlen,hcap,g1,g2,_⟩
 ·obtain rfl:=(Prod.mk.inj ed).1
  exact ⟨[],.cons (.nilany _) (.nil _),Nat.le_refl 1⟩
 ·obtain rfl:=(Prod.mk.inj ed).1
  obtain rfl:n=m:=by omega
  by_cases hl0:len=0
  ·subst hl0
   exact ⟨[],.cons (.slice sz [] .any a cap [] (by simp) rfl (by simp) (fun i h=>by simp at h) rfl (fun i h=>by simp [zA0] at h) (by simp) trivial) (.nil _),by
    rw [uptoBulk]; simp⟩
  have g2':∀ i (h:i<elems.length),(W.cells? 0 (a.add (i*P.cellsOf e)) (P.cellsOf e)).bind (DataW.trod enc P W 0 sp held n e)=some elems[i]:=fun i hi=>by
   rw [g2 i (by omega),List.getElem?_eq_getElem]
  have hspot:a.spot=none:=by
   have this:=g2' 0 (by omega)
   simp only [Option.bind_eq_some_iff] at this
   obtain ⟨cs,hc,_⟩:=this
   obtain ⟨_,hl,hc⟩:=World.cells?_some hc
   have h1:=hc 0 (by omega)
   rw [List.getElem?_eq_getElem (by omega)] at h1
   have:=World.cell?_spot h1
   simpa [Addr.add] using this
  obtain ⟨l,vs,h1,h2,h3,h4,h5⟩:=zON (mk:=mk) hsz h0 hp hmk hspot elems 0 fun i hi=>by
   rw [Nat.zero_add]; exact g2' i hi
  refine ⟨l,.cons ?_ (.nil _),?_⟩
  ·have hm:(l.map mk).length=len:=by simp [h1,g1]
   have:=RV.slice (g:=zOH W) sz (l.map mk) .any a cap vs (by
    intro x hx
    obtain ⟨y,hy,rfl⟩:=List.mem_map.1 hx
    rw [hmk,hfl]) h4.1 (fun _=>hspot) (fun i hi=>by
     have:=h3 i hi
     simp only [Nat.zero_mul,Nat.add_zero] at this
     exact this) (by
     rw [zA0,List.all_flatMap,List.all_map]
     exact List.all_eq_true.2 fun y hy=>by simp [hmk,hone]) h4.2 (by rw [hm]; exact hlen) trivial
   rw [hm] at this
   exact this
  ·have e5:uptoBulk (DataW.slice (elems.map (·.1)) (rest.map (·.1)))=uptoBulkAll (elems.map (·.1))+uptoBulkAll (rest.map (·.1))+1:=by rw [uptoBulk]
   show (l.map wt).sum+1<=uptoBulk (DataW.slice (elems.map (·.1)) (rest.map (·.1)))
   rw [e5]; omega

theorem pull_map {α β:Type} {f:α->List AV} {wt:α->Nat} {g:β->List AV} {wt':β->Nat} {n:Nat} {t:TypeId} (h:zOI enc P W sp held n t f wt) (m:α->β) (hm:∀ a,g (m a)=f a) (hw:∀ a,wt' (m a)<=wt a):zOI enc P W sp held n t g wt':=fun cs d p k=>by
 obtain ⟨a,ha,h1⟩:=h cs d p k
 exact ⟨m a,by rw [hm]; exact ha,Nat.le_trans (hw a) h1⟩

def PullF (enc:TypeId×Value->H) (P:Program) (W:World) (sp:Nat->Bool) (held:Bool) (n:Nat) (N:Nat) (fs:List (TypeId×Nat)) (k:Nat) {α:Type} (f:α->List AV) (wt:α->Nat):Prop :=
 ∀ (cs:List Value) (ys:List (DataW H×List MemPlace)),cs.length=N->ys.length=fs.length ->
  (∀ i (h:i<fs.length) (h':i<ys.length),DataW.trod enc P W 0 sp held n fs[i].1 ((cs.drop fs[i].2).take (P.cellsOf fs[i].1))=some ys[i])->∃ a,RVL (zOH W) (f a) (cs.drop k)/\wt a<=uptoBulkAll (ys.map (·.1))
theorem zOP {n N:Nat}:PullF enc P W sp held n N [] N (fun _:Unit=>[]) (fun _=>0):=fun cs ys hl _ h=>⟨(),by
 rw [List.drop_of_length_le (by omega)]; exact RVL.nil _,Nat.zero_le _⟩
theorem zOQ {α β:Type} {f:α->List AV} {wt:α->Nat} {g:β->List AV} {wt':β->Nat} {n N k m:Nat} {t:TypeId} {fs:List (TypeId×Nat)} (hm:P.cellsOf t=m) (hp:zOI enc P W sp held n t f wt) (hr:PullF enc P W sp held n N fs (k+m) g wt') :
  PullF enc P W sp held n N ((t,k) :: fs) k (fun x:α×β=>f x.1++g x.2) (fun x=>wt x.1+wt' x.2):=fun cs ys hl hy h=>by
 cases ys with
 | nil=>simp at hy
 | cons y ys =>
  have hb:=h 0 (by simp) (by simp)
  simp only [List.getElem_cons_zero] at hb
  obtain ⟨a,ha,hw⟩:=hp _ y.1 y.2 hb
  obtain ⟨c,hc,hw2⟩:=hr cs ys hl (by simpa using hy) fun i h1 h2=>by
   have:=h (i+1) (by simpa using h1) (by simpa using h2)
   simpa using this
  refine ⟨(a,c),?_,?_⟩
  ·have:=ha.append hc
   rw [hm,<-List.drop_drop,List.take_append_drop] at this
   exact this
  ·simp only [List.map_cons]
   rw [uptoBulkAll]; omega

def fieldsOf (P:Program) (t:TypeId):List (TypeId×Nat) :=
 match P.underlying t with
 | some (.struct fs)=>fs.toList.map fun f=>(f.type,f.offset)
 | _=>[]
theorem zOR {P:Program} {t:TypeId} {l:List (TypeId×Nat)} (h:fieldsOf P t=l) (h0:l≠[]):∃ fs:Array Field,P.underlying t=some (.struct fs)/\fs.toList.map (fun f=>(f.type,f.offset))=l:=by
 unfold fieldsOf at h
 split at h
 ·exact ⟨_,by assumption,h⟩
 ·exact absurd h.symm h0

theorem zOS {α:Type} {f:α->List AV} {wt:α->Nat} {n N:Nat} {t:TypeId} {l:List (TypeId×Nat)} (hu:fieldsOf P t=l) (h0:l≠[]) (hN:P.cellsOf t=N) (hp:PullF enc P W sp held n N l 0 f wt):zOI enc P W sp held (n+1) t f (fun a=>wt a+1):=fun cs d p h=>by
 obtain ⟨fs,h1,h2⟩:=zOR hu h0
 obtain ⟨xs,m,hn,e,hl,hx,hf⟩:=DataW.trod_struct h1 h
 obtain rfl:n=m:=by omega
 obtain rfl:=(Prod.mk.inj e).1
 subst h2
 obtain ⟨a,ha,hw⟩:=hp cs xs (by omega) (by simp [hx]) fun i hi hi'=>by
  have hi'':i<fs.size:=by omega
  have:=hf i fs[i] (by simp [hi''])
  rw [List.getElem?_eq_getElem hi'] at this
  simpa using this
 refine ⟨a,by simpa using ha,?_⟩
 have e5:uptoBulk (DataW.agg (xs.map (·.1)))=uptoBulkAll (xs.map (·.1))+1:=by rw [uptoBulk]
 show wt a+1<=uptoBulk (DataW.agg (xs.map (·.1)))
 rw [e5]; omega
end

section
variable {H:Type} {enc:TypeId×Value->H} {W:World} {sp:Nat->Bool} {held:Bool}
open Go.Proofs (Tryz.prog)
open Go.Proofs.YtgnjidopnplbbaaGreatDoor.Rows (uptoBulk uptoBulkAll)

theorem un3:Tryz.prog.underlying 3=some (.int .i64):=by kernel_rfl
theorem un4:Tryz.prog.underlying 4=some .bool:=by kernel_rfl
theorem un9:Tryz.prog.underlying 9=some .string:=by kernel_rfl
theorem un22:Tryz.prog.underlying 22=some (.slice 23):=by kernel_rfl
theorem un23:Tryz.prog.underlying 23=some (.slice 37):=by kernel_rfl
theorem un26:Tryz.prog.underlying 26=some (.slice 3):=by kernel_rfl
theorem fo37:fieldsOf Tryz.prog 37=[(3,0),(3,1),(9,2),(23,3)]:=by kernel_rfl
theorem co3:Tryz.prog.cellsOf 3=1:=by kernel_rfl
theorem co9:Tryz.prog.cellsOf 9=1:=by kernel_rfl
theorem co23:Tryz.prog.cellsOf 23=1:=by kernel_rfl
theorem co37:Tryz.prog.cellsOf 37=4:=by kernel_rfl
theorem tc_one (t:T):(tc t).all AV.one=true:=rfl
theorem zOT:∀ n,zOI enc Tryz.prog W sp held n 37 tc T.bulk/\zOI enc Tryz.prog W sp held (n+1) 23 (fun l:List T=>[.slice 4 (l.map zME) .any]) (fun l=>(l.map T.bulk).sum+1)
 | 0=>⟨zOJ,zOO un23 co37 (by omega) (fun a=>by rw [zMF]; rfl) (fun a=>rfl) tc_one zOJ⟩
 | n+1=>by
  have ih:=zOT n
  have h37:zOI enc Tryz.prog W sp held (n+1) 37 tc T.bulk:=pull_map
   (zOS fo37 (by simp) co37 (zOQ co3 (zOK un3) (zOQ co3 (zOK un3) (zOQ co9 (pull_str un9) (zOQ co23
    (f:=fun l:List T=>[.slice 4 (l.map zME) .any]) (wt:=fun l=>(l.map T.bulk).sum+1) (by
     cases n with
     | zero=>exact zOJ
     | succ n=>exact (zOT n).2) zOP)))))
   (fun x=>T.mk x.1 x.2.1 x.2.2.1 x.2.2.2.1) (fun x=>by simp [tc,T.k,T.n,T.s,T.l,zMG]) (fun x=>by rw [T.bulk,zMO]; omega)
  exact ⟨h37,zOO un23 co37 (by omega) (fun a=>by rw [zMF]; rfl) (fun a=>rfl) tc_one h37⟩
theorem pull_23 (n:Nat):zOI enc Tryz.prog W sp held n 23 (fun l:List T=>[.slice 4 (l.map zME) .any]) (fun l=>(l.map T.bulk).sum+1):=by
 cases n with
 | zero=>exact zOJ
 | succ n=>exact (zOT n).2
theorem pull_22 (n:Nat):zOI enc Tryz.prog W sp held n 22 (fun l:List (List T)=>[.slice 1 (l.map fun l => .slice 4 (l.map zME) .any) .any]) (fun l=>(l.map fun l=>(l.map T.bulk).sum+1).sum+1):=by
 cases n with
 | zero=>exact zOJ
 | succ n=>exact zOO un22 co23 (by omega) (fun a=>rfl) (fun a=>rfl) (fun a=>rfl) (pull_23 n)
theorem pull_26 (n:Nat):zOI enc Tryz.prog W sp held n 26 (fun l:List Int=>[.slice 1 (l.map fun x=>iZ x) .any]) (fun l=>(l.map fun _=>1).sum+1):=by
 cases n with
 | zero=>exact zOJ
 | succ n=>exact zOO un26 co3 (by omega) (fun a=>rfl) (fun a=>rfl) (fun a=>rfl) (zOK un3)
end
end Go.V
namespace Go.V
open Go Go.Proofs Go.ChangeShapes Go.WideShapes Go.RowKit

def zOU : List (String × DataW Unit) := [("riparian/prog.calculations", Go.Proofs.YtgnjidopnplbbaaGreatDoor.Rows.laid_riparian_prog_calculations)]

theorem glob0 : Tryz.prog.globalNamed "riparian/prog.calculations" = some 0 := by kernel_rfl
theorem globT:(Tryz.prog.globals[0]?).map (·.type)=some 313:=by kernel_rfl
theorem un313:Tryz.prog.underlying 313=some (.array 6 9):=by kernel_rfl
theorem co313:Tryz.prog.cellsOf 313=6:=by kernel_rfl

theorem str_of {s:ByteArray} {l:List UInt8} (h:s.data.toList=l):s=⟨l.toArray⟩:=by
 cases s with
 | mk d=>simp only [ByteArray.mk.injEq] at *; rw [<-h]

theorem zOV {W:World} (h:laidMetH Tryz.prog zOU W):zBM (zOH W) G1:=by
 have h:laidMet Tryz.prog zOU W:=h
 obtain ⟨ps,hv,_,_⟩:=h
 obtain ⟨g,t,cs,fuel,p,q,e1,e2,e3,e4,_,_⟩:=hv
 obtain rfl:(0:Nat)=g:=Option.some.inj (glob0.symm.trans e1)
 obtain rfl:(313:Nat)=t:=Option.some.inj (globT.symm.trans e2)
 obtain ⟨xs,m,_,hx,hl,hxl,hf⟩:=DataW.trod_array un313 e4
 rw [co313] at hl
 have hd:=(Prod.mk.inj hx).1
 have hstr:∀ i,i<6->∃ (s:ByteArray),cs.toList[i]? = some (.string s)/\xs[i]? = some (.lit (.string s.data.toList),[]):=fun i hi=>by
  have k:=hf i hi
  rw [co9,Nat.mul_one] at k
  have hi':i<xs.length:=by omega
  rw [List.getElem?_eq_getElem hi'] at k
  obtain ⟨s,k1,k2,_⟩:=DataW.trod_string un9 k
  refine ⟨s,?_,by rw [List.getElem?_eq_getElem hi',k2]⟩
  have:=congrArg (·[0]?) k1
  simpa [List.getElem?_take,List.getElem?_drop] using this
 have hds:∀ i,i<6->∀ s:ByteArray,xs[i]? = some (.lit (.string s.data.toList),[])->(xs.map (·.1))[i]? = some (DataW.lit (.string s.data.toList)):=fun i hi s k=>by
  rw [List.getElem?_map,k]; rfl
 intro k
 cases k with
 | succ k=>exact .undef _
 | zero =>
  have key:∀ i (x:List UInt8),i<6->([[43],[45],[42],[47],[109,111,100],[45]]:List (List UInt8))[i]? = some x->cs[i]? = some (.string ⟨x.toArray⟩):=fun i x hi hx'=>by
   obtain ⟨s,k1,k2⟩:=hstr i hi
   have k3:=hds i hi s k2
   have hd':xs.map (·.1)=([[43],[45],[42],[47],[109,111,100],[45]]:List (List UInt8)).map fun x=>DataW.lit (.string x):=by
    have:DataW.agg (xs.map (·.1))=DataW.agg (([[43],[45],[42],[47],[109,111,100],[45]]:List (List UInt8)).map fun x=>DataW.lit (.string x)):=hd.symm
    exact DataW.agg.inj this
   rw [hd',List.getElem?_map,hx'] at k3
   have k4:x=s.data.toList:=by simpa using k3
   rw [k4,<-str_of rfl,<-k1]; simp
  have hsz:cs.size=6:=by simpa using hl
  obtain ⟨l⟩:=cs
  simp only [List.size_toArray] at hsz
  have hl':l=[.string ⟨#[43]⟩,.string ⟨#[45]⟩,.string ⟨#[42]⟩,.string ⟨#[47]⟩,.string ⟨#[109,111,100]⟩,.string ⟨#[45]⟩]:=by
   have k0:=key 0 _ (by omega) rfl
   have k1:=key 1 _ (by omega) rfl
   have k2:=key 2 _ (by omega) rfl
   have k3:=key 3 _ (by omega) rfl
   have k4:=key 4 _ (by omega) rfl
   have k5:=key 5 _ (by omega) rfl
   match l,hsz with
   | [a,b,c,d,e,f],_ =>
    simp at k0 k1 k2 k3 k4 k5
    rw [k0,k1,k2,k3,k4,k5]
  subst hl'
  refine .vptr _ 0 0 _ rfl (fun i hi => ?_) (RVL.cons (.str _) (.cons (.str _) (.cons (.str _) (.cons (.str _) (.cons (.str _) (.cons (.str _) (.nil _))))))).2
  show W.cell? ⟨0,0+i,none⟩=_
  rw [Nat.zero_add,World.var?_cell glob0 e3 i,<-Array.getElem?_toList,List.getElem?_eq_getElem hi]

theorem zOW {H:Type} {enc:TypeId×Value->H} {W W':World} (hb:Below W.heap.size W W') (hl:laidOutB Tryz.prog=true):∀ {ts:List TypeId} {vs:List Value} {ds:List (DataW H)} {ps:List MemPlace},
  (∀ t∈ts,Tryz.prog.readableRec t=true/\t<Tryz.prog.types.size)->DataW.TrodAll enc Tryz.prog W 0 (fun _=>true) true ts vs ds ps->(∀ x∈ps,x.block<W.heap.size) ->
  DataW.TrodAll enc Tryz.prog W' 0 (fun b=>decide (b<W.heap.size)) true ts vs ds ps
 | [],[],[],_,_,h,_=>h
 | t :: ts,v :: vs,d :: ds,ps,ht,⟨p,q,h1,h2,e⟩,hlt=>by
  subst e
  exact ⟨p,q,Below.trod hl (ht t (.head _)).1 (ht t (.head _)).2 h1 hb fun x hx=>hlt x (List.mem_append_left _ hx),
   zOW hb hl (fun t' h'=>ht t' (.tail _ h')) h2 fun x hx=>hlt x (List.mem_append_right _ hx),rfl⟩
 | [],[],_ :: _,_,_,h,_=>h.elim
 | [],_ :: _,_,_,_,h,_=>by cases ‹List (DataW H)› <;> exact h.elim
 | _ :: _,[],_,_,_,h,_=>by cases ‹List (DataW H)› <;> exact h.elim
 | _ :: _,_ :: _,[],_,_,h,_=>h.elim

theorem zOX {H:Type} {enc:TypeId×Value->H} {P:Program} {W:World} {b:Nat} {sp:Nat->Bool} {held:Bool}:∀ {ts:List TypeId} {vs:List Value} {ds:List (DataW H)} {ps:List MemPlace},DataW.TrodAll enc P W b sp held ts vs ds ps->ds.length=ts.length
 | [],[],[],_,_=>rfl
 | t :: ts,v :: vs,d :: ds,ps,⟨p,q,h1,h2,e⟩=>by simp [zOX h2]
 | [],[],_ :: _,_,h=>h.elim
 | [],_ :: _,_,_,h=>by cases ‹List (DataW H)› <;> exact h.elim
 | _ :: _,[],_,_,h=>by cases ‹List (DataW H)› <;> exact h.elim
 | _ :: _,_ :: _,[],_,h=>h.elim

theorem Tryz.own:ownKnob Tryz.prog.godebug=none:=by kernel_rfl
theorem Tryz.laidOut:laidOutB Tryz.prog=true:=by kernel_rfl

noncomputable def zOY (os:Os):World :=
 let w0:=World.holding Tryz.prog os ⟨#[],#[],[]⟩
 { w0 with heap:=w0.heap.modify 0 fun
   | .cells _ t frozen => .cells #[.string ⟨#[43]⟩,.string ⟨#[45]⟩,.string ⟨#[42]⟩,.string ⟨#[47]⟩,.string ⟨#[109,111,100]⟩,.string ⟨#[45]⟩] t frozen
   | o=>o }
theorem zOZ (os:Os) (args:Array Value):laidMetH Tryz.prog zOU ((zOY os).forCall (fun _ _=>0) ⟨#[],args,[]⟩).memory :=
 show laidMet Tryz.prog zOU _ from laidMet_of_run' 10 (by kernel_rfl) (by kernel_rfl)

theorem contract {f:FuncId} {fn:Func} {s:ChangeSpec} (hres:fn.resultTypes=#[4]) (hvars:s.vars=[])
  (hs:∀ (H:Type) (ds:List (DataW H)),ds.length=fn.params.size->s.fn H ds={ results:=[.lit (.bool true)],args:=ds })
  (hty:∀ t∈fn.params.toList,Tryz.prog.readableRec t=true/\t<Tryz.prog.types.size) {H:Type} {enc:TypeId×Value->H} {W:World} {args:Array Value} {ds gs:List (DataW H)} {before:List MemPlace}
  (hW:DataW.Whole enc Tryz.prog fn.params.toList s.vars false W args.toList ds gs before) (hL:laidMetH Tryz.prog zOU W)
  (main:∀ p,DataW.TrodAll enc Tryz.prog W 0 (fun _=>true) true fn.params.toList args.toList ds p->∃ avs,RVL (zOH W) avs args.toList/\zDV (EV W.heap.size W G1) f avs zJZ (fun v _=>v = .bool true)) :
  Calls Tryz.prog f args W fun e W'=>∃ v,e = .returned v/\s.post enc Tryz.prog fn false true false false W args v W':=by
 have hW':=hW
 obtain ⟨p,q,hA,hV,rfl,hfz,hnd⟩:=hW
 rw [hvars] at hV
 obtain ⟨rfl,rfl⟩:gs=[]/\q=[]:=by
  cases gs with
  | nil=>exact ⟨rfl,hV⟩
  | cons g r=>exact absurd hV (by intro h; cases h)
 obtain ⟨avs,ha,hc⟩:=main p hA
 have hpar:ds.length=fn.params.size:=by simpa using zOX hA
 have hlt:∀ x∈p,x.block<W.heap.size:=fun x hx=>by
  have:=hW'.lt x (List.mem_append_left _ hx)
  simpa using this
 refine (hc.run (zOH W) W args (zOV hL) (sim0 W) ha).mono fun e W' hp => ?_
 cases e with
 | returned v =>
  obtain ⟨g',σ',a,hle,hsim,hv,rfl⟩:=hp
  cases hv
  have hb:Below W.heap.size W W':=hsim.below
  refine ⟨_,rfl,ds,[],p++[],[],p,[],hW',?_,?_,?_,hb.frame _,fun h=>by cases h⟩
  ·rw [hs H (ds++[]) (by simpa using hpar),hres]
   exact trodAll_mk1 (shut_bool un4 true)
  ·rw [hs H (ds++[]) (by simpa using hpar)]
   simp only [List.append_nil]
   exact zOW hb Tryz.laidOut hty hA hlt
  ·rw [hs H (ds++[]) (by simpa using hpar),hvars]; rfl
 | outgrown=>exact hp.elim
 | panicked c=>exact hp.elim

theorem liftedU {f:FuncId} {fn:Func} {s:ChangeSpec} (hfn:Tryz.prog.funcs[f]? = some fn) (hno:Tryz.prog.inits.idxOf? f=none) (hres:fn.resultTypes=#[4]) (hvars:s.vars=[])
  (hs:∀ (H:Type) (ds:List (DataW H)),ds.length=fn.params.size->s.fn H ds={ results:=[.lit (.bool true)],args:=ds })
  (hty:∀ t∈fn.params.toList,Tryz.prog.readableRec t=true/\t<Tryz.prog.types.size)
  (main:∀ (H:Type) (enc:TypeId×Value->H) (W:World) (base:Nat) (args:Array Value) (ds:List (DataW H)) (p:List MemPlace),(∀ (j:Nat) t v,fn.params[j]? = some t->args[j]? = some v->Value.okWide Tryz.prog W .any base t v)->Go.Proofs.YtgnjidopnplbbaaGreatDoor.Rows.uptoBulkAll ds<=1048576->DataW.TrodAll enc Tryz.prog W 0 (fun _=>true) true fn.params.toList args.toList ds p ->
   ∃ avs,RVL (zOH W) avs args.toList/\zDV (EV W.heap.size W G1) f avs zJZ (fun v _=>v = .bool true))
  (os:Os) (started:os.Started) (H:Type) (enc:TypeId×Value->H) (F:Stop.Interp) (wargs:Array Value)
  (hv:((zOY os).forCall (fun _ _=>0) ⟨#[],wargs,[]⟩).variablesB Tryz.checked.prog=true)
  (hr:(((zOY os).forCall (fun _ _=>0) ⟨#[],wargs,[]⟩).heap.toList.drop Tryz.checked.prog.globals.size).take ((begin Tryz.checked.prog (fun _ _=>0) default).world.heap.size - Tryz.checked.prog.globals.size) =
   (begin Tryz.checked.prog (fun _ _=>0) default).world.heap.toList.drop Tryz.checked.prog.globals.size)
  (hok:Input.okWideB Tryz.checked.prog ((zOY os).forCall (fun _ _=>0) ⟨#[],wargs,[]⟩) f ⟨#[],wargs,[]⟩=true)
  (hrow:(Go.Proofs.YtgnjidopnplbbaaGreatDoor.Rows.OpenSpec.upto s).preRow enc Tryz.checked.prog fn [] false zOU ((zOY os).forCall (fun _ _=>0) ⟨#[],wargs,[]⟩).memory wargs) :
  ReturnsInHanded {} Tryz.checked os f .any ((Go.Proofs.YtgnjidopnplbbaaGreatDoor.Rows.OpenSpec.upto s).preRow enc Tryz.prog fn [] false zOU) (((Go.Proofs.YtgnjidopnplbbaaGreatDoor.Rows.OpenSpec.upto s).at F).post enc Tryz.prog fn false true false false):=by
 refine returnsInHanded_of_row (C:=Tryz.checked) (s:=Go.Proofs.YtgnjidopnplbbaaGreatDoor.Rows.OpenSpec.upto s) Tryz.own started hno hfn (witness_row_at (enc:=enc) (C:=Tryz.checked) false (zOY os) wargs rfl hv hr hok hrow) ?_
 intro W base args ds gs before hval hW _ hcond _ hL _ _
 have hb:Go.Proofs.YtgnjidopnplbbaaGreatDoor.Rows.uptoBulkAll (ds++gs)<=1048576:=of_decide_eq_true (hcond _ rfl)
 have hgs:gs=[]:=by
  obtain ⟨p,q,hA,hV,_⟩:=hW
  have hV:DataW.TrodVars enc Tryz.prog W (fun _=>true) s.vars gs q:=hV
  rw [hvars] at hV
  cases gs with
  | nil=>rfl
  | cons g r=>exact absurd hV (by intro h; cases h)
 subst hgs
 rw [List.append_nil] at hb
 exact contract hres hvars hs hty hW hL fun p hA=>main H enc W base args ds p hval hb hA

section
variable {H:Type} {enc:TypeId×Value->H} {W:World} {base:Nat} {sp:Nat->Bool} {held:Bool} {t:TypeId} {v:Value} {d:DataW H} {p:List MemPlace}
open Go.Proofs.YtgnjidopnplbbaaGreatDoor.Rows (uptoBulk uptoBulkAll)
theorem arg_int {k:IntKind} (hu:Tryz.prog.underlying t=some (.int k)) (ho:Value.okWide Tryz.prog W .any base t v) (h:DataW.Trod enc Tryz.prog W 0 sp held t v d p):∃ x,RV (zOH W) (.int k x) v:=by
 obtain ⟨n,rfl⟩:=okWide_int hu ho
 exact ⟨n,.int _ _⟩
theorem zP0 {e:TypeId} {α:Type} {f:α->AV} {wt:α->Nat} (hu:Tryz.prog.underlying t=some (.slice e)) (hp:∀ n,zOI enc Tryz.prog W sp held n t (fun a=>[f a]) wt) (ho:Value.okWide Tryz.prog W .any base t v) (h:DataW.Trod enc Tryz.prog W 0 sp held t v d p) :
  ∃ x,RV (zOH W) (f x) v/\wt x<=uptoBulk d:=by
 obtain ⟨a,len,cap,rfl⟩:=okWide_slice hu ho
 obtain ⟨fuel,hf⟩:=h
 obtain ⟨x,hx,hw⟩:=hp fuel _ _ _ hf
 obtain ⟨u,us,e1,h1,_⟩:=hx.cons_inv
 simp [Value.cells] at e1
 rw [<-e1.1] at h1
 exact ⟨x,h1,hw⟩
end
end Go.V
