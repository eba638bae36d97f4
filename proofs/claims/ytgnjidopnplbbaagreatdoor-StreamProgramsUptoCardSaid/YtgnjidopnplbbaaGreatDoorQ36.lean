/- A part of the proof of the statement S8 (texts brought together and shortened by a program of this work). -/
import Derived.Test.YtgnjidopnplbbaaGreatDoorQ32
import Derived.Test.YtgnjidopnplbbaaGreatDoorQ35
set_option maxRecDepth 1000000
namespace Go.V
open Go Go.Proofs

theorem zbV (B:Nat) (w0:World) (G:Nat->AV):zHD (EV B w0 G) zHI (fun _=>none) 300 200 (.fn 69) [iZ 0] zJZ (zLP (zQQ 0))=true:=by kernel_rfl
theorem zbW (B:Nat) (w0:World) (G:Nat->AV):zHD (EV B w0 G) zHI (fun _=>none) 300 200 (.fn 69) [iZ 1] zJZ (zLP (zQQ 1))=true:=by kernel_rfl
theorem zbX (B:Nat) (w0:World) (G:Nat->AV):zHD (EV B w0 G) zHI (fun _=>none) 300 200 (.fn 69) [iZ 2] zJZ (zLP (zQQ 2))=true:=by kernel_rfl
theorem zbY (B:Nat) (w0:World) (G:Nat->AV):zHD (EV B w0 G) zHI (fun _=>none) 300 200 (.fn 69) [iZ 3] zJZ (zLP (zQQ 3))=true:=by kernel_rfl
theorem zbZ (B:Nat) (w0:World) (G:Nat->AV):zHD (EV B w0 G) zHI (fun _=>none) 300 200 (.fn 69) [iZ 4] zJZ (zLP (zQQ 4))=true:=by kernel_rfl
theorem zc0 (B:Nat) (w0:World) (G:Nat->AV):zHD (EV B w0 G) zHI (fun _=>none) 300 200 (.fn 69) [iZ 5] zJZ (zLP (zQQ 5))=true:=by kernel_rfl
theorem zc1 (B:Nat) (w0:World) (G:Nat->AV):zHD (EV B w0 G) zHI (fun _=>none) 300 200 (.fn 69) [iZ 6] zJZ (zLP (zQQ 6))=true:=by kernel_rfl
theorem zc2 (B:Nat) (w0:World) (G:Nat->AV):zHD (EV B w0 G) zHI (fun _=>none) 300 200 (.fn 69) [iZ 7] zJZ (zLP (zQQ 7))=true:=by kernel_rfl
theorem zc3 (B:Nat) (w0:World) (G:Nat->AV):zHD (EV B w0 G) zHI (fun _=>none) 300 200 (.fn 69) [iZ 8] zJZ (zLP (zQQ 8))=true:=by kernel_rfl
end Go.V
set_option linter.unusedVariables false
set_option linter.unusedSimpArgs false
set_option linter.unusedSectionVars false
namespace Go.V
open Go Go.Proofs

def C37:zJC:=fun args σ K=>∃ (ls:List (List T)) (o:List Int),args=[.slice 1 (lsV ls) .any,.slice 1 (zP9 o) .any]/\((OkL ls/\o.length<=1099511627776)/\K (.tuple [.slice 2 (zZF (zaC ls o).2) .any,iZ (zaC ls o).1]) σ.untok)
section
variable {B:Nat} {w0:World}
theorem zc4 {G:Nat->AV} (hG:∀ i,zJV (G i)) {f lf k:Nat} {args:List AV} {r r':AV} (ha:noIdL args=true) (hw:Wk r r') (hr:zJV r') (h:zHD (EV B w0 G) zHI (fun _=>none) lf k (.fn f) args zJZ (zLP r)=true) {σ:zA6} {Q:AV->zA6->Prop} (hQ:Q r' σ.untok):zDV (EV B w0 G) f args σ Q:=by
 refine zDV.pureD 60 hG (noIdL_ok _ ha).1 (zHF (zKM B w0 G) (T:=fun _=>none) (fun f h e=>by cases e) k (.fn f) args zJZ _ h) fun v σ' kk => ?_
 unfold zLP at kk
 split at kk
 ·rename_i v' hv'
  have:=AV.same_ok _ _ kk
  subst this
  exact ⟨_,_,hv',hw,hr,hQ⟩
 ·cases kk
theorem zc5:zJD (EV B w0 G1) 69 C69:=by
 rintro args σ Q ⟨m,rfl,hm,hQ⟩
 match m,hm with
 | 0,_=>exact zc4 zLR (by kernel_rfl) (zZ5 0 (by omega)) (zWN _) (zbV B w0 G1) hQ
 | 1,_=>exact zc4 zLR (by kernel_rfl) (zZ5 1 (by omega)) (zWN _) (zbW B w0 G1) hQ
 | 2,_=>exact zc4 zLR (by kernel_rfl) (zZ5 2 (by omega)) (zWN _) (zbX B w0 G1) hQ
 | 3,_=>exact zc4 zLR (by kernel_rfl) (zZ5 3 (by omega)) (zWN _) (zbY B w0 G1) hQ
 | 4,_=>exact zc4 zLR (by kernel_rfl) (zZ5 4 (by omega)) (zWN _) (zbZ B w0 G1) hQ
 | 5,_=>exact zc4 zLR (by kernel_rfl) (zZ5 5 (by omega)) (zWN _) (zc0 B w0 G1) hQ
 | 6,_=>exact zc4 zLR (by kernel_rfl) (zZ5 6 (by omega)) (zWN _) (zc1 B w0 G1) hQ
 | 7,_=>exact zc4 zLR (by kernel_rfl) (zZ5 7 (by omega)) (zWN _) (zc2 B w0 G1) hQ
 | 8,_=>exact zc4 zLR (by kernel_rfl) (zZ5 8 (by omega)) (zWN _) (zc3 B w0 G1) hQ
theorem zc6 (l:List (Int×Int)) (e:Int):zJV (.tuple [.slice 2 (zZF l) .any,iZ e]):=.tuple fun v hv=>by
 simp only [List.mem_cons,List.not_mem_nil,or_false] at hv
 rcases hv with rfl | rfl
 ·exact zZK l
 ·exact .int _ _
def RetM (r:Int×List (Int×Int)) (v:AV) (σ:zA6):Prop:=(∃ e,r=(e,[])/\v = .tuple [.nilslice,iZ e])\/∃ (w:AV) (l:List (Int×Int)),r=(0,l)/\v = .tuple [w,iZ 0]/\OutM σ w l
theorem RetM.out {r:Int×List (Int×Int)} {v:AV} {σ:zA6} (h:RetM r v σ):∃ v',deep Tryz.prog σ 4 v=some v'/\Wk v' (.tuple [.slice 2 (zZF r.2) .any,iZ r.1]):=by
 rcases h with ⟨e,rfl,rfl⟩ | ⟨w,l,rfl,rfl,hO⟩
 ·exact ⟨_,rfl,Wk.tuple (.cons (Wk.nil 2) (.cons (.refl _) .nil))⟩
 ·obtain ⟨v',h1,h2⟩:=hO.deep
  exact ⟨_,zbP h1,Wk.tuple (.cons h2 (.cons (.refl _) .nil))⟩
theorem zc7 (ls:List (List T)) (o:List Int) (h1:zR2 ls=0) (h2:zZN ls o=true) (h3:za4 ls=0):zaC ls o=(0,zaB ls.length o):=by
 unfold zaC
 rw [if_neg (by simp [h1]),if_neg (by simp [h2]),if_neg (by simp [h3])]
theorem OutM.last {n:Nat} {o:List Int} (ho:o.length<=1099511627776) (hn:n<=1000000) {σ:zA6} {v:AV} (h:OutM σ v (za9 0 o++zaA (2*o.length) n)) :
  (v = .nilslice->OutM (σ.new (.cells [iZ ((2*o.length+n:Nat):Int),iZ 0,iZ (IntKind.wrap .i64 (((2*o.length+n:Nat):Int)+1)),iZ (-1)] 119 2 true)) (.rslice σ.next 0 2) (zaB n o)) /\
  ∀ (id:Nat) (cs:List AV) (g:Bool),v = .rslice id 0 (2*o.length+n)->(2*o.length+n)*2<=cs.length->cs.take ((2*o.length+n)*2)=zA0 (zZF (za9 0 o++zaA (2*o.length) n)) ->
   OutM ((σ.set id .dead).new (.cells (cs.take ((2*o.length+n)*2)++[iZ ((2*o.length+n:Nat):Int),iZ 0,iZ (IntKind.wrap .i64 (((2*o.length+n:Nat):Int)+1)),iZ (-1)]) 119 2 true)) (.rslice σ.next 0 (2*o.length+n+2)) (zaB n o):=by
 have hlen:(za9 0 o++zaA (2*o.length) n).length=2*o.length+n:=by rw [List.length_append,zaF,zaG]
 have w1:IntKind.wrap .i64 (((2*o.length+n:Nat):Int)+1)=((2*o.length+n:Nat):Int)+1:=by rw [zN8 (by omega) (by omega)]
 have ec:zA0 (zZF (zaB n o))=zA0 (zZF (za9 0 o++zaA (2*o.length) n))++[iZ ((2*o.length+n:Nat):Int),iZ 0,iZ (IntKind.wrap .i64 (((2*o.length+n:Nat):Int)+1)),iZ (-1)]:=by
  unfold zaB
  rw [zbN,w1]; rfl
 have el:(zaB n o).length=2*o.length+n+2:=by unfold zaB; rw [List.length_append,hlen]; rfl
 unfold OutM at h
 rw [hlen] at h
 refine ⟨fun hv => ?_,fun id cs g hv h1 h2 => ?_⟩
 ·subst hv
  rcases h with ⟨_,h0,h1⟩ | ⟨_,_,_,h,_⟩
  ·unfold OutM
   rw [ec,el]
   have:=zaI.first (tid:=119) (sz:=2) (k:=2) (σ:=σ) (new:=[iZ ((2*o.length+n:Nat):Int),iZ 0,iZ (IntKind.wrap .i64 (((2*o.length+n:Nat):Int)+1)),iZ (-1)]) h0 h1 rfl
   rw [show 2*o.length+n+2=2 by omega] at this ⊢
   exact this
  ·cases h
 ·unfold OutM
  rw [ec,el]
  exact zaI.more (k:=2) h1 h2 rfl
theorem c37_ok:zJD (EV B w0 G1) 37 C37:=by
 rintro args σ Q ⟨ls,o,rfl,⟨hb,ho⟩,hQ⟩
 obtain ⟨hl,hbl⟩:=hb
 have hll:=zQF ls
 refine zDV.pureD 4 zLR (Q0:=RetM (zaC ls o)) (fun v hv => ?_) ?_ (fun v σ' k => ?_)
 ·simp only [List.mem_cons,List.not_mem_nil,or_false] at hv
  rcases hv with rfl | rfl
  ·exact zQJ ls
  ·exact zPC o
 rotate_left
 ·obtain ⟨v',h1,h2⟩:=k.out
  exact ⟨v',_,h1,h2,zc6 _ _,hQ⟩
 let No:Prop:=zR2 ls=0->zaC ls o=(1,[])
 have no0:zZN ls o=false->No:=fun h h1=>by unfold zaC; rw [if_neg (by simp [h1]),if_pos h]
 have no1:zZL ls.length o=false->No:=fun h=>no0 (by unfold zZN; rw [h]; rfl)
 have no2:okN ls o ls.length=false->No:=fun h=>no0 (by show (zZL ls.length o&&okN ls o ls.length)=false; rw [h,Bool.and_false])
 let I:Y81->Prop:=fun y=>y.i<=o.length/\zZV ls.length y.cs (o.take y.i)/\zZL ls.length (o.take y.i)=true
 let R:Y81->Prop:=fun y=>zZV ls.length y.cs o/\zZL ls.length o=true
 refine zKF (cuts:=[]) (zKM B w0 G1) (zJJ (zKM B w0 G1) (zJI (c74_ok zLR) (zJI (c75_ok zc5) zJH))) (fun lp hl2 _ Q a' σ kk => ?_) ((vc37 B w0 G1 ls o I R (fun cs j=>j<=ls.length/\zZV ls.length cs o/\okN ls o j=true) (okN ls o ls.length=true) No
  (fun y=>y.i<=o.length/\OutM y.σ y.v (za9 0 (o.take y.i))) (fun y=>OutM y.σ y.v (za9 0 o)) (fun y=>y.i<=ls.length/\OutM y.σ y.v (za9 0 o++zbQ (2*o.length) ls.length y.i)) (fun y=>OutM y.σ y.v (za9 0 o++zaA (2*o.length) ls.length)) _).mpr ?_)
 ·change lp∈zKE Tryz.prog [] 37 at hl2
  rw [zbI] at hl2
  simp only [List.mem_cons,List.not_mem_nil,or_false] at hl2
  let PP:Code->zDW->zDN->zA6->Prop:=fun c Q a σ=>AWp (EV B w0 G1) none (zJ8 Tryz.prog 37) c Q a σ
  rcases hl2 with h0 | h0 | h0 | h0
  ·refine zKL (P:=PP) kk (fun _ k=>loop37a h0 hl ho no1 k) (fun k=>zKL (P:=PP) k (fun h k=>by rw [h0,zbJ.1] at h; cases h) (fun k=>zKL (P:=PP) k (fun h k=>by rw [h0,zbJ.1] at h; cases h) (fun k=>zKL (P:=PP) k (fun h k=>by rw [h0,zbJ.1] at h; cases h) (fun k=>k.elim))))
  ·refine zKL (P:=PP) kk (fun h k=>by rw [h0,zbJ.2.1] at h; cases h) (fun k=>zKL (P:=PP) k (fun _ k=>loop37b h0 hl ho hbl no2 id k) (fun k=>zKL (P:=PP) k (fun h k=>by rw [h0,zbJ.2.1] at h; cases h) (fun k=>zKL (P:=PP) k (fun h k=>by rw [h0,zbJ.2.1] at h; cases h) (fun k=>k.elim))))
  ·refine zKL (P:=PP) kk (fun h k=>by rw [h0,zbJ.2.2.1] at h; cases h) (fun k=>zKL (P:=PP) k (fun h k=>by rw [h0,zbJ.2.2.1] at h; cases h) (fun k=>zKL (P:=PP) k (fun _ k=>loop37c h0 ho k) (fun k=>zKL (P:=PP) k (fun h k=>by rw [h0,zbJ.2.2.1] at h; cases h) (fun k=>k.elim))))
  ·refine zKL (P:=PP) kk (fun h k=>by rw [h0,zbJ.2.2.2] at h; cases h) (fun k=>zKL (P:=PP) k (fun h k=>by rw [h0,zbJ.2.2.2] at h; cases h) (fun k=>zKL (P:=PP) k (fun h k=>by rw [h0,zbJ.2.2.2] at h; cases h) (fun k=>zKL (P:=PP) k (fun _ k=>loop37d h0 (by omega) hl (zaF 0 o) k) (fun k=>k.elim))))
 ·refine ⟨ls,rfl,⟨hl,hbl⟩,zE2 (fun h => .inl ⟨zR2 ls,by unfold zaC; rw [if_pos (by simpa using h)],rfl⟩) (fun hE0=>have hE:zR2 ls=0:=by simpa using hE0
   ⟨⟨by omega,by omega,by omega,by omega⟩,⟨List.replicate ls.length 0,0⟩,⟨Nat.zero_le _,⟨by simp,fun k hk => ?_⟩,rfl⟩,⟨rfl,rfl,?_,rfl,by rw [zPA],rfl,?_⟩,
   fun y' hy=>⟨y'.cs,⟨Nat.zero_le _,hy.1,rfl⟩,⟨rfl,rfl,rfl,rfl,by rw [hll],rfl,.refl _⟩,fun hok σ'=>have hord:zZN ls o=true:=(by show (zZL ls.length o&&okN ls o ls.length)=true; rw [hy.2,hok]; rfl)
   ⟨ls,rfl,⟨⟨hl,hbl⟩,hE⟩,zE2 (fun h => .inl ⟨za4 ls,?_,rfl⟩) (fun h => ?_)⟩,fun h σ' => .inl ⟨1,h hE,rfl⟩⟩,fun h σ' => .inl ⟨1,h hE,rfl⟩⟩)⟩
  ·show List.getD (List.replicate ls.length (0:Int)) k 0=_
   rw [List.getD_eq_getElem?_getD,List.getElem?_replicate,if_pos hk]; rfl
  ·rw [hll,Int.toNat_natCast]
  ·rw [hll,zR6]; exact .refl _
  ·have h:za4 ls≠0:=by simpa using h
   unfold zaC
   rw [if_neg (by simp [hE]),if_neg (by simp [hord]),if_pos h]
  ·have h:za4 ls=0:=by simpa using h
   have hmv:=zc7 ls o hE hord h
   refine ⟨⟨_,.nilslice,0⟩,⟨Nat.zero_le _,.inl ⟨rfl,rfl,rfl⟩⟩,⟨rfl,rfl,rfl,rfl,by rw [zPA],rfl,.refl _⟩,fun y' hy=>⟨⟨y'.σ,y'.v,ls.length⟩,⟨Nat.le_refl _,?_⟩,⟨rfl,?_,by rw [hll],.refl _⟩,fun y9 hy9 => ?_⟩⟩
   ·show OutM y'.σ y'.v (za9 0 o++zbQ (2*o.length) ls.length ls.length)
    rw [zbT,List.append_nil]; exact hy
   ·exact congrArg (fun z=>TV.v (iZ z)) (by show 2*(o.length:Int)=((2*o.length+ls.length:Nat):Int) - (ls.length:Int); omega)
   ·obtain ⟨σ9,v9,i9⟩:=y9
    have hy9:OutM σ9 v9 (za9 0 o++zaA (2*o.length) ls.length):=hy9
    have hlast:=hy9.last ho hl
    have hlen:(za9 0 o++zaA (2*o.length) ls.length).length=2*o.length+ls.length:=by rw [List.length_append,zaF,zaG]
    unfold OutM at hy9
    rw [hlen] at hy9
    rcases hy9 with ⟨rfl,h0,h1⟩ | ⟨id,cs,g,rfl,hlt,hob,hcl,hcs⟩
    ·exact .inl ⟨rfl,⟨by omega,by omega⟩,.inr ⟨_,_,hmv,rfl,hlast.1 rfl⟩⟩
    ·exact .inr ⟨⟨id,2*o.length+ls.length⟩,rfl,⟨cs,g⟩,hob,⟨rfl,⟨by show (2*o.length+ls.length+2)*16<=_; omega,by show 2*o.length+ls.length+2<=_; omega⟩,hcl⟩,.inr ⟨_,_,hmv,rfl,hlast.2 id cs g rfl hcl hcs⟩⟩
end
end Go.V
namespace Go.V
open Go Go.Proofs
variable (B:Nat) (w0:World) (G:Nat->AV)
def zc8 (f:Nat) (l:List (Nat×Nat)):zDM:=⟨fun id i=>match l.any (fun x=>Nat.beq x.1 id&&Nat.beq x.2 i) with | true => .ref | false=>(zHI f).ann id i,(zHI f).eff⟩
def refA (f:Nat) (l:List (Nat×Nat)) (g:Nat):zDM:=match Nat.beq g f with | true=>zc8 f l | false=>zHI g
def zc9 (k i:Nat) (t z:T):List T:=((List.range k).map fun n=>if n=i then t else vN n)++[z]
def zcA (k i:Nat) (z:T):List T:=((List.range k).filter fun n=>decide (n≠i)).map vN++[z]
def C113:zJC:=fun args σ K=>∃ (k i:Nat) (t z:T),args=[iZ (k:Int),iZ (i:Int),.agg (tc t),.agg (tc z)]/\((k<=1000000/\i<=1000000)/\K (slV (zc9 k i t z)) σ.untok)
def zcB (k i:Nat) (t z:T) (I:zUC->Prop):LS zUC where
 F y:=[(0,.v (iZ (k:Int))),(1,.v (iZ (i:Int))),(6,.l 6 0),(7,.l 7 0),(9,.v y.v),(10,.v (iZ (y.i:Int)))]
 FL _:=[(6,tc t),(7,tc z)]
 S y:=y.σ
 I:=I
 μ y:=k - y.i
 Ex y e a σ:=match e with
  | .exit 0=>¬ (y.i<k)/\atF a [(7,.l 7 0),(9,.v y.v)] [(7,tc z)] (y.σ.Le σ)
  | _=>False
def N113:zIE:=hAt [(6,0,zP6),(6,3,hEl 37 4),(7,0,zP6),(7,4,hEl 37 4),(8,0,zP6),(8,3,hEl 37 4)]
theorem zcC:zKE Tryz.prog [] 113=[.loop (lB 113 0)]:=by kernel_rfl
theorem vc113l (k i:Nat) (t z:T) (I:zUC->Prop) (σ:zA6) (v:AV) (j:Nat):(wpX [] (EV B w0 G) (hnd (EV B w0 G) zHI zMU [(78,C78)]) nL (zc8 113 [(1,0)]) N113 (lB 113 0) ((zcB k i t z I).post ⟨σ,v,j⟩) (frm ((zcB k i t z I).F ⟨σ,v,j⟩) ((zcB k i t z I).FL ⟨σ,v,j⟩)) σ) =
 (bcase (decide ((j:Int)<(k:Int)))
 (bcase ((j:Int)==(i:Int))
 ((v=AV.nilslice/\Bd0 56 1/\∃ x'0:zUC,(I x'0/\LS.μ (zcB k i t z I) x'0<LS.μ (zcB k i t z I) (zUC.mk σ v j))/\Rf (TV.v (iZ (k:Int)))/\Rf (TV.v (iZ (i:Int)))/\Rf (TV.l 6 0)/\Rf (TV.l 7 0)/\TV.v (AV.rslice (zA6.next σ) 0 1)=TV.v (zUC.v x'0)/\TV.v (iZ (IntKind.wrap .i64 ((j:Int)+1)))=TV.v (iZ (zUC.i x'0:Int))/\Rf (tc t)/\Rf (tc z)/\zA6.Le ((zcB k i t z I).3 x'0) (zA6.new σ (zA5.cells (tc t) 37 4 true)))\/∃ x0:RS,v=AV.rslice (RS.id x0) 0 (RS.n x0)/\∃ a1:OE,zA6.objs σ (RS.id x0)=zA5.cells (OE.cs a1) 37 4 (OE.g a1)/\((0:Nat)=0/\Bd ((RS.n x0)+1) 56/\(((RS.n x0)*4):Nat)<=List.length (OE.cs a1))/\∃ x'2:zUC,(I x'2/\LS.μ (zcB k i t z I) x'2<LS.μ (zcB k i t z I) (zUC.mk σ v j))/\Rf (TV.v (iZ (k:Int)))/\Rf (TV.v (iZ (i:Int)))/\Rf (TV.l 6 0)/\Rf (TV.l 7 0)/\TV.v (AV.rslice (zA6.next σ) 0 ((RS.n x0)+1))=TV.v (zUC.v x'2)/\TV.v (iZ (IntKind.wrap .i64 ((j:Int)+1)))=TV.v (iZ (zUC.i x'2:Int))/\Rf (tc t)/\Rf (tc z)/\zA6.Le ((zcB k i t z I).3 x'2) (zA6.new (zA6.set σ (RS.id x0) zA5.dead) (zA5.cells ((List.take ((RS.n x0)*4) (OE.cs a1))++(tc t)) 37 4 true)))
 ((v=AV.nilslice/\∃ k0:Int,[iZ (j:Int)]=[iZ k0]/\Bd0 56 1/\∃ x'1:zUC,(I x'1/\LS.μ (zcB k i t z I) x'1<LS.μ (zcB k i t z I) (zUC.mk σ v j))/\Rf (TV.v (iZ (k:Int)))/\Rf (TV.v (iZ (i:Int)))/\Rf (TV.l 6 0)/\Rf (TV.l 7 0)/\TV.v (AV.rslice (zA6.next σ) 0 1)=TV.v (zUC.v x'1)/\TV.v (iZ (IntKind.wrap .i64 ((j:Int)+1)))=TV.v (iZ (zUC.i x'1:Int))/\Rf (tc t)/\Rf (tc z)/\zA6.Le ((zcB k i t z I).3 x'1) (zA6.new (Ut σ) (zA5.cells (tc (vZ k0)) 37 4 true)))\/∃ x0:RS,v=AV.rslice (RS.id x0) 0 (RS.n x0)/\∃ k1:Int,[iZ (j:Int)]=[iZ k1]/\∃ a2:OE,zA6.objs (Ut σ) (RS.id x0)=zA5.cells (OE.cs a2) 37 4 (OE.g a2)/\((0:Nat)=0/\Bd ((RS.n x0)+1) 56/\(((RS.n x0)*4):Nat)<=List.length (OE.cs a2))/\∃ x'3:zUC,(I x'3/\LS.μ (zcB k i t z I) x'3<LS.μ (zcB k i t z I) (zUC.mk σ v j))/\Rf (TV.v (iZ (k:Int)))/\Rf (TV.v (iZ (i:Int)))/\Rf (TV.l 6 0)/\Rf (TV.l 7 0)/\TV.v (AV.rslice (zA6.next σ) 0 ((RS.n x0)+1))=TV.v (zUC.v x'3)/\TV.v (iZ (IntKind.wrap .i64 ((j:Int)+1)))=TV.v (iZ (zUC.i x'3:Int))/\Rf (tc t)/\Rf (tc z)/\zA6.Le ((zcB k i t z I).3 x'3) (zA6.new (zA6.set (Ut σ) (RS.id x0) zA5.dead) (zA5.cells ((List.take ((RS.n x0)*4) (OE.cs a2))++(tc (vZ k1))) 37 4 true))))
 (((j<k)->False)/\Rf (TV.l 7 0)/\Rf (TV.v v)/\Rf (tc z)/\zA6.Le σ σ)):=by kernel_rfl
def T113 (k i:Nat) (t z:T) (I R:zUC->Prop):zFV:=fun _ Q a σ=>∃ y:zUC,I y/\atF a ((zcB k i t z I).F y) ((zcB k i t z I).FL y) (y.σ.Le σ)/\∀ y':zUC,R y'->Q (.exit 0) (frm [(7,.l 7 0),(9,.v y'.v)] [(7,tc z)]) y'.σ
theorem vc113 (k i:Nat) (t z:T) (I R:zUC->Prop) (Q:AV->zA6->Prop):(zKD [] (EV B w0 G) (hnd (EV B w0 G) zHI zMU [(78,C78)]) (T113 k i t z I R) (refA 113 [(1,0)]) N113 113 [iZ (k:Int),iZ (i:Int),.agg (tc t),.agg (tc z)] zJZ Q) =
 (∃ y0:zUC,I y0/\(Rf (TV.v (iZ (k:Int)))/\Rf (TV.v (iZ (i:Int)))/\Rf (TV.l 6 0)/\Rf (TV.l 7 0)/\TV.v (AV.rslice 0 0 0)=TV.v (zUC.v y0)/\TV.v (iZ 0)=TV.v (iZ (zUC.i y0:Int))/\Rf (tc t)/\Rf (tc z)/\zA6.Le y0.1 (zA6.new zJZ (zA5.cells [] 37 4 false)))/\(∀ y'1:zUC,((R y'1)->((zUC.v y'1=AV.nilslice/\Bd0 56 1/\Q (AV.rslice (zA6.next y'1.1) 0 1) (zA6.new y'1.1 (zA5.cells (tc z) 37 4 true)))\/∃ x2:RS,zUC.v y'1=AV.rslice (RS.id x2) 0 (RS.n x2)/\∃ a3:OE,zA6.objs y'1.1 (RS.id x2)=zA5.cells (OE.cs a3) 37 4 (OE.g a3)/\((0:Nat)=0/\Bd ((RS.n x2)+1) 56/\(((RS.n x2)*4):Nat)<=List.length (OE.cs a3))/\Q (AV.rslice (zA6.next y'1.1) 0 ((RS.n x2)+1)) (zA6.new (zA6.set y'1.1 (RS.id x2) zA5.dead) (zA5.cells ((List.take ((RS.n x2)*4) (OE.cs a3))++(tc z)) 37 4 true)))))):=by kernel_rfl
def C116:zJC:=fun args σ K=>∃ (k i:Nat) (z:T),args=[iZ (k:Int),iZ (i:Int),.agg (tc z)]/\((k<=1000000/\i<=1000000)/\K (slV (zcA k i z)) σ.untok)
def zcD (k i:Nat) (z:T) (I:zUC->Prop):LS zUC where
 F y:=[(0,.v (iZ (k:Int))),(1,.v (iZ (i:Int))),(5,.l 5 0),(7,.v y.v),(8,.v (iZ (y.i:Int)))]
 FL _:=[(5,tc z)]
 S y:=y.σ
 I:=I
 μ y:=k - y.i
 Ex y e a σ:=match e with
  | .exit 0=>¬ (y.i<k)/\atF a [(5,.l 5 0),(7,.v y.v)] [(5,tc z)] (y.σ.Le σ)
  | _=>False
def N116:zIE:=hAt [(6,0,zP6),(6,4,hEl 37 4),(7,0,zP6),(7,3,hEl 37 4)]
theorem zcE:zKE Tryz.prog [] 116=[.loop (lB 116 0)]:=by kernel_rfl
theorem vc116l (k i:Nat) (z:T) (I:zUC->Prop) (σ:zA6) (v:AV) (j:Nat):(wpX [] (EV B w0 G) (hnd (EV B w0 G) zHI zMU [(78,C78)]) nL (zc8 116 [(1,0)]) N116 (lB 116 0) ((zcD k i z I).post ⟨σ,v,j⟩) (frm ((zcD k i z I).F ⟨σ,v,j⟩) ((zcD k i z I).FL ⟨σ,v,j⟩)) σ) =
 (bcase (decide ((j:Int)<(k:Int)))
 (bcase ((j:Int) != (i:Int))
 ((v=AV.nilslice/\∃ k0:Int,[iZ (j:Int)]=[iZ k0]/\Bd0 56 1/\∃ x'1:zUC,(I x'1/\LS.μ (zcD k i z I) x'1<LS.μ (zcD k i z I) (zUC.mk σ v j))/\Rf (TV.v (iZ (k:Int)))/\Rf (TV.v (iZ (i:Int)))/\Rf (TV.l 5 0)/\TV.v (AV.rslice (zA6.next σ) 0 1)=TV.v (zUC.v x'1)/\TV.v (iZ (IntKind.wrap .i64 ((j:Int)+1)))=TV.v (iZ (zUC.i x'1:Int))/\Rf (tc z)/\zA6.Le ((zcD k i z I).3 x'1) (zA6.new (Ut σ) (zA5.cells (tc (vZ k0)) 37 4 true)))\/∃ x0:RS,v=AV.rslice (RS.id x0) 0 (RS.n x0)/\∃ k1:Int,[iZ (j:Int)]=[iZ k1]/\∃ a2:OE,zA6.objs (Ut σ) (RS.id x0)=zA5.cells (OE.cs a2) 37 4 (OE.g a2)/\((0:Nat)=0/\Bd ((RS.n x0)+1) 56/\(((RS.n x0)*4):Nat)<=List.length (OE.cs a2))/\∃ x'3:zUC,(I x'3/\LS.μ (zcD k i z I) x'3<LS.μ (zcD k i z I) (zUC.mk σ v j))/\Rf (TV.v (iZ (k:Int)))/\Rf (TV.v (iZ (i:Int)))/\Rf (TV.l 5 0)/\TV.v (AV.rslice (zA6.next σ) 0 ((RS.n x0)+1))=TV.v (zUC.v x'3)/\TV.v (iZ (IntKind.wrap .i64 ((j:Int)+1)))=TV.v (iZ (zUC.i x'3:Int))/\Rf (tc z)/\zA6.Le ((zcD k i z I).3 x'3) (zA6.new (zA6.set (Ut σ) (RS.id x0) zA5.dead) (zA5.cells ((List.take ((RS.n x0)*4) (OE.cs a2))++(tc (vZ k1))) 37 4 true)))
 (∃ x'0:zUC,(I x'0/\LS.μ (zcD k i z I) x'0<LS.μ (zcD k i z I) (zUC.mk σ v j))/\Rf (TV.v (iZ (k:Int)))/\Rf (TV.v (iZ (i:Int)))/\Rf (TV.l 5 0)/\TV.v v=TV.v (zUC.v x'0)/\TV.v (iZ (IntKind.wrap .i64 ((j:Int)+1)))=TV.v (iZ (zUC.i x'0:Int))/\Rf (tc z)/\zA6.Le ((zcD k i z I).3 x'0) σ))
 (((j<k)->False)/\Rf (TV.l 5 0)/\Rf (TV.v v)/\Rf (tc z)/\zA6.Le σ σ)):=by kernel_rfl
def T116 (k i:Nat) (z:T) (I R:zUC->Prop):zFV:=fun _ Q a σ=>∃ y:zUC,I y/\atF a ((zcD k i z I).F y) ((zcD k i z I).FL y) (y.σ.Le σ)/\∀ y':zUC,R y'->Q (.exit 0) (frm [(5,.l 5 0),(7,.v y'.v)] [(5,tc z)]) y'.σ
theorem vc116 (k i:Nat) (z:T) (I R:zUC->Prop) (Q:AV->zA6->Prop):(zKD [] (EV B w0 G) (hnd (EV B w0 G) zHI zMU [(78,C78)]) (T116 k i z I R) (refA 116 [(1,0)]) N116 116 [iZ (k:Int),iZ (i:Int),.agg (tc z)] zJZ Q) =
 (∃ y0:zUC,I y0/\(Rf (TV.v (iZ (k:Int)))/\Rf (TV.v (iZ (i:Int)))/\Rf (TV.l 5 0)/\TV.v (AV.rslice 0 0 0)=TV.v (zUC.v y0)/\TV.v (iZ 0)=TV.v (iZ (zUC.i y0:Int))/\Rf (tc z)/\zA6.Le y0.1 (zA6.new zJZ (zA5.cells [] 37 4 false)))/\(∀ y'1:zUC,((R y'1)->((zUC.v y'1=AV.nilslice/\Bd0 56 1/\Q (AV.rslice (zA6.next y'1.1) 0 1) (zA6.new y'1.1 (zA5.cells (tc z) 37 4 true)))\/∃ x2:RS,zUC.v y'1=AV.rslice (RS.id x2) 0 (RS.n x2)/\∃ a3:OE,zA6.objs y'1.1 (RS.id x2)=zA5.cells (OE.cs a3) 37 4 (OE.g a3)/\((0:Nat)=0/\Bd ((RS.n x2)+1) 56/\(((RS.n x2)*4):Nat)<=List.length (OE.cs a3))/\Q (AV.rslice (zA6.next y'1.1) 0 ((RS.n x2)+1)) (zA6.new (zA6.set y'1.1 (RS.id x2) zA5.dead) (zA5.cells ((List.take ((RS.n x2)*4) (OE.cs a3))++(tc z)) 37 4 true)))))):=by kernel_rfl
def zcF (vs:List Int) (v:Int):Int:=match vs.findIdx? (fun x=>decide (x=v)) with | some i=>(i:Int) | none => -1
mutual
def zcG (vs:List Int):T->T
 | .mk k n s l => .mk k (if k=1 then zcF vs n else n) s (numTL vs l)
def numTL (vs:List Int):List T->List T
 | []=>[]
 | x :: l=>zcG vs x :: numTL vs l
end
def C210:zJC:=fun args σ K=>∃ (vs:List Int) (v:Int),args=[.slice 1 (zP9 vs) .any,iZ v]/\(vs.length<=1000000/\K (iZ (zcF vs v)) σ.untok)
def zcH (vs:List Int) (v:Int) (I:Nat->Prop):LS Nat where
 F j:=[(0,.v (.slice 1 (zP9 vs) .any)),(1,.v (iZ v)),(5,.v (iZ (j:Int)))]
 FL _:=[]
 S _:=zJZ
 I:=I
 μ j:=vs.length - j
 Ex j e a σ:=match e with
  | .exit 0=>¬ (j<vs.length)/\atF a [] [] True
  | .ret=>zcF vs v=(j:Int)/\atF a [(4,.v (iZ (j:Int)))] [] True
  | _=>False
theorem zcI:zKE Tryz.prog [] 210=[.loop (lB 210 0)]:=by kernel_rfl
theorem vc210l (vs:List Int) (v:Int) (I:Nat->Prop) (j:Nat):(wpX [] (EV B w0 G) (H0 (EV B w0 G)) nL (zHI 210) (hAt [(4,2,zTP)]) (lB 210 0) ((zcH vs v I).post j) (frm ((zcH vs v I).F j) []) zJZ) =
 (bcase (decide ((j:Int)<(List.length (zP9 vs):Int)))
 (((0:Int)<=(j:Int)/\(j:Int)<(List.length (zP9 vs):Int))/\∃ x0:Int,AV.vptr (AV.cells (List.getD (zP9 vs) (Int.toNat (↑j:Int)) AV.undef))=AV.vptr [iZ x0]/\bcase ((x0:Int)==v)
 (((zcF vs v):Int)=(j:Int)/\Rf (TV.v (iZ (j:Int)))/\True)
 (∃ x'1:Nat,(I x'1/\LS.μ (zcH vs v I) x'1<LS.μ (zcH vs v I) j)/\Rf (TV.v (AV.slice 1 (zP9 vs) Cap.any))/\Rf (TV.v (iZ v))/\TV.v (iZ (IntKind.wrap .i64 ((j:Int)+1)))=TV.v (iZ (x'1:Int))/\zA6.Le ((zcH vs v I).3 x'1) zJZ))
 (((j<List.length vs)->False)/\True)):=by kernel_rfl
def T210 (vs:List Int) (v:Int):zFV:=fun _ Q a σ=>atF a ((zcH vs v (fun _=>True)).F 0) [] (zJZ.Le σ)/\((zcF vs v = -1->∀ σ':zA6,Q (.exit 0) (frm [] []) σ')/\(∀ j:Nat,zcF vs v=(j:Int)->∀ σ':zA6,Q .ret (frm [(4,.v (iZ (j:Int)))] []) σ'))
theorem vc210 (vs:List Int) (v:Int) (Q:AV->zA6->Prop):(zKD [] (EV B w0 G) (H0 (EV B w0 G)) (T210 vs v) zHI zMV 210 [.slice 1 (zP9 vs) .any,iZ v] zJZ Q) =
 ((Rf (TV.v (AV.slice 1 (zP9 vs) Cap.any))/\Rf (TV.v (iZ v))/\Rf (TV.v (iZ 0))/\zA6.Le zJZ zJZ)/\((((zcF vs v):Int)=(-1))->(∀ σ'0:zA6,Q (iZ (-1)) σ'0))/\(∀ j0:Nat,((((zcF vs v):Int)=(j0:Int))->(∀ σ'1:zA6,Q (iZ (j0:Int)) σ'1)))):=by kernel_rfl
def C186 (N:Nat):zJC:=fun args σ K=>∃ (t:T) (vs:List Int),args=[.agg (tc t),.slice 1 (zP9 vs) .any]/\((t.small/\SizeOf.sizeOf t<N/\vs.length<=1000000)/\K (.agg (tc (zcG vs t))) σ.untok)
def zcJ (t:T) (vs:List Int) (n:Int) (I:zUC->Prop):LS zUC where
 F y:=[(1,.v (.slice 1 (zP9 vs) .any)),(2,.l 2 0),(4,.l 4 0),(5,.l 5 0),(6,.v (iZ (y.i:Int)))]
 FL y:=[(2,tc t),(4,zNK),(5,[iZ t.k,iZ n,.str t.s,y.v])]
 S y:=y.σ
 I:=I
 μ y:=t.l.length - y.i
 Ex y e a σ:=match e with
  | .exit 0=>¬ (y.i<t.l.length)/\atF a [(4,.l 4 0),(5,.l 5 0)] [(4,zNK),(5,[iZ t.k,iZ n,.str t.s,y.v])] (y.σ.Le σ)
  | _=>False
def H186 (E:Env) (N:Nat):zDY:=hnd E zHI zMU [(210,C210),(186,C186 N)]
def N186:zIE:=hAt [(8,1,zP6),(8,5,hT),(8,10,hEl 37 4),(9,0,zIB.no)]
theorem zcK:zKE Tryz.prog [] 186=[.loop (lB 186 0)]:=by kernel_rfl
theorem vc186l (N:Nat) (t:T) (vs:List Int) (n:Int) (I:zUC->Prop) (σ:zA6) (v:AV) (i:Nat):(wpX [] (EV B w0 G) (H186 (EV B w0 G) N) nL (zHI 186) N186 (lB 186 0) ((zcJ t vs n I).post ⟨σ,v,i⟩) (frm ((zcJ t vs n I).F ⟨σ,v,i⟩) ((zcJ t vs n I).FL ⟨σ,v,i⟩)) σ) =
 (bcase (decide ((i:Int)<(List.length (tcellL (T.l t)):Int)))
 ((v=AV.nilslice/\((0:Int)<=(i:Int)/\(i:Int)<(List.length (tcellL (T.l t)):Int))/\∃ x0:T,AV.vptr (AV.cells (List.getD (tcellL (T.l t)) (Int.toNat (↑i:Int)) AV.undef))=AV.vptr (tc x0)/\∃ t1:T,∃ vs2:List Int,[AV.agg (tc x0),AV.slice 1 (zP9 vs) Cap.any]=[AV.agg (tc t1),AV.slice 1 (zP9 vs2) Cap.any]/\(T.small t1/\SizeOf.sizeOf t1<N/\List.length vs2<=1000000)/\Rf (TV.l 5 3)/\Dn v AV.nilslice/\Bd0 56 1/\∃ x'3:zUC,(I x'3/\LS.μ (zcJ t vs n I) x'3<LS.μ (zcJ t vs n I) (zUC.mk σ v i))/\Rf (TV.v (AV.slice 1 (zP9 vs) Cap.any))/\Rf (TV.l 2 0)/\Rf (TV.l 4 0)/\Rf (TV.l 5 0)/\TV.v (iZ (IntKind.wrap .i64 ((i:Int)+1)))=TV.v (iZ (zUC.i x'3:Int))/\Rf (tc t)/\Rf [iZ 0,iZ 0,AV.str ⟨⟨[]⟩⟩,AV.nilslice]/\[iZ (T.k t),iZ n,AV.str (T.s t),AV.rslice (zA6.next σ) 0 1]=[iZ (T.k t),iZ n,AV.str (T.s t),zUC.v x'3]/\zA6.Le ((zcJ t vs n I).3 x'3) (zA6.new (Ut σ) (zA5.cells (tc (zcG vs2 t1)) 37 4 true)))\/∃ x0:RS,v=AV.rslice (RS.id x0) 0 (RS.n x0)/\((0:Int)<=(i:Int)/\(i:Int)<(List.length (tcellL (T.l t)):Int))/\∃ x1:T,AV.vptr (AV.cells (List.getD (tcellL (T.l t)) (Int.toNat (↑i:Int)) AV.undef))=AV.vptr (tc x1)/\∃ t2:T,∃ vs3:List Int,[AV.agg (tc x1),AV.slice 1 (zP9 vs) Cap.any]=[AV.agg (tc t2),AV.slice 1 (zP9 vs3) Cap.any]/\(T.small t2/\SizeOf.sizeOf t2<N/\List.length vs3<=1000000)/\Rf (TV.l 5 3)/\Dn v (AV.rslice (RS.id x0) 0 (RS.n x0))/\∃ a4:OE,zA6.objs (Ut σ) (RS.id x0)=zA5.cells (OE.cs a4) 37 4 (OE.g a4)/\((0:Nat)=0/\Bd ((RS.n x0)+1) 56/\(((RS.n x0)*4):Nat)<=List.length (OE.cs a4))/\∃ x'5:zUC,(I x'5/\LS.μ (zcJ t vs n I) x'5<LS.μ (zcJ t vs n I) (zUC.mk σ v i))/\Rf (TV.v (AV.slice 1 (zP9 vs) Cap.any))/\Rf (TV.l 2 0)/\Rf (TV.l 4 0)/\Rf (TV.l 5 0)/\TV.v (iZ (IntKind.wrap .i64 ((i:Int)+1)))=TV.v (iZ (zUC.i x'5:Int))/\Rf (tc t)/\Rf [iZ 0,iZ 0,AV.str ⟨⟨[]⟩⟩,AV.nilslice]/\[iZ (T.k t),iZ n,AV.str (T.s t),AV.rslice (zA6.next σ) 0 ((RS.n x0)+1)]=[iZ (T.k t),iZ n,AV.str (T.s t),zUC.v x'5]/\zA6.Le ((zcJ t vs n I).3 x'5) (zA6.new (zA6.set (Ut σ) (RS.id x0) zA5.dead) (zA5.cells ((List.take ((RS.n x0)*4) (OE.cs a4))++(tc (zcG vs3 t2))) 37 4 true)))
 (((i<List.length (T.l t))->False)/\Rf (TV.l 4 0)/\Rf (TV.l 5 0)/\Rf [iZ 0,iZ 0,AV.str ⟨⟨[]⟩⟩,AV.nilslice]/\Rf [iZ (T.k t),iZ n,AV.str (T.s t),v]/\zA6.Le σ σ)):=by kernel_rfl
def T186 (t:T) (vs:List Int) (n:Int) (I:zUC->Prop) (R:zA6->AV->Prop):zFV:=fun _ Q a σ=>∃ y:zUC,I y/\atF a ((zcJ t vs n I).F y) ((zcJ t vs n I).FL y) (y.σ.Le σ) /\
 ((∀ σ':zA6,R σ' .nilslice->Q (.exit 0) (frm [(4,.l 4 0),(5,.l 5 0)] [(4,zNK),(5,[iZ t.k,iZ n,.str t.s,.nilslice])]) σ') /\
  (∀ (σ':zA6) (id m:Nat),R σ' (.rslice id 0 m)->Q (.exit 0) (frm [(4,.l 4 0),(5,.l 5 0)] [(4,zNK),(5,[iZ t.k,iZ n,.str t.s,.rslice id 0 m])]) σ'))
theorem vc186v (N:Nat) (t:T) (vs:List Int) (n:Int) (I:zUC->Prop) (R:zA6->AV->Prop) (Q:AV->zA6->Prop):(zKD [] (EV B w0 G) (H186 (EV B w0 G) N) (T186 t vs n I R) zHI zMV 186 [.agg (tc t),.slice 1 (zP9 vs) .any] zJZ Q) =
 (bcase (((T.k t):Int)==1)
 (∃ vs0:List Int,∃ v1:Int,[AV.slice 1 (zP9 vs) Cap.any,iZ (T.n t)]=[AV.slice 1 (zP9 vs0) Cap.any,iZ v1]/\List.length vs0<=1000000/\∃ y2:zUC,I y2/\(Rf (TV.v (AV.slice 1 (zP9 vs) Cap.any))/\Rf (TV.l 2 0)/\Rf (TV.l 4 0)/\Rf (TV.l 5 0)/\TV.v (iZ 0)=TV.v (iZ (zUC.i y2:Int))/\Rf (tc t)/\Rf [iZ 0,iZ 0,AV.str ⟨⟨[]⟩⟩,AV.nilslice]/\[iZ (T.k t),iZ (zcF vs0 v1),AV.str (T.s t),AV.nilslice]=[iZ (T.k t),iZ n,AV.str (T.s t),zUC.v y2]/\zA6.Le y2.1 (Ut zJZ))/\(∀ σ'3:zA6,((R σ'3 AV.nilslice)->(Q (AV.agg [iZ (T.k t),iZ n,AV.str (T.s t),AV.nilslice]) σ'3)))/\(∀ σ'3:zA6,(∀ id4:Nat,(∀ m5:Nat,((R σ'3 (AV.rslice id4 0 m5))->(Q (AV.agg [iZ (T.k t),iZ n,AV.str (T.s t),AV.rslice id4 0 m5]) σ'3))))))
 (∃ y0:zUC,I y0/\(Rf (TV.v (AV.slice 1 (zP9 vs) Cap.any))/\Rf (TV.l 2 0)/\Rf (TV.l 4 0)/\Rf (TV.l 5 0)/\TV.v (iZ 0)=TV.v (iZ (zUC.i y0:Int))/\Rf (tc t)/\Rf [iZ 0,iZ 0,AV.str ⟨⟨[]⟩⟩,AV.nilslice]/\[iZ (T.k t),iZ (T.n t),AV.str (T.s t),AV.nilslice]=[iZ (T.k t),iZ n,AV.str (T.s t),zUC.v y0]/\zA6.Le y0.1 zJZ)/\(∀ σ'1:zA6,((R σ'1 AV.nilslice)->(Q (AV.agg [iZ (T.k t),iZ n,AV.str (T.s t),AV.nilslice]) σ'1)))/\(∀ σ'1:zA6,(∀ id2:Nat,(∀ m3:Nat,((R σ'1 (AV.rslice id2 0 m3))->(Q (AV.agg [iZ (T.k t),iZ n,AV.str (T.s t),AV.rslice id2 0 m3]) σ'1))))))):=by kernel_rfl
end Go.V
namespace Go.V
open Go Go.Proofs

def zcL (σ:zA6) (v:AV) (acc:List T):Prop:=zaI 37 4 σ v acc.length (zA0 (tcellL acc))
theorem zcL.cases {σ:zA6} {v:AV} {acc:List T} (h:zcL σ v acc):(v = .nilslice/\∀ x,zcL (σ.new (.cells (tc x) 37 4 true)) (.rslice σ.next 0 1) (acc++[x])) \/
  ∃ (id:Nat) (cs:List AV) (g:Bool),v = .rslice id 0 acc.length/\σ.objs id = .cells cs 37 4 g/\acc.length*4<=cs.length /\
   ∀ x,zcL ((σ.set id .dead).new (.cells (cs.take (acc.length*4)++tc x) 37 4 true)) (.rslice σ.next 0 (acc.length+1)) (acc++[x]):=by
 rcases h with ⟨rfl,h0,h1⟩ | ⟨id,cs,g,rfl,hlt,ho,hcl,hcs⟩
 ·refine .inl ⟨rfl,fun x => ?_⟩
  unfold zcL
  rw [zP8,List.length_append,h0]
  have:=zaI.first (tid:=37) (sz:=4) (k:=1) (σ:=σ) (new:=tc x) h0 h1 rfl
  rw [h0] at this
  exact this
 ·refine .inr ⟨id,cs,g,rfl,ho,hcl,fun x => ?_⟩
  unfold zcL
  rw [zP8,List.length_append]
  exact zaI.more (k:=1) hcl hcs rfl
theorem zcL.untok {σ:zA6} {v:AV} {acc:List T} (h:zcL σ v acc):zcL σ.untok v acc:=zaI.untok h
theorem zcL.start:zcL (zJZ.new (.cells [] 37 4 false)) (.rslice 0 0 0) []:=.inr ⟨0,[],false,rfl,Nat.lt_succ_self _,rfl,Nat.zero_le _,rfl⟩
theorem zcL.none {σ:zA6}:zcL σ .nilslice []:=.inl ⟨rfl,rfl,rfl⟩
theorem zcL.toT {σ:zA6} {v:AV} {acc:List T} (h:zcL σ v acc):zUG σ v acc:=zaI.toT h
def zcM (i:Nat) (t:T) (j:Nat):List T:=(List.range j).map fun n=>if n=i then t else vN n
theorem zcN (i:Nat) (t:T) (j:Nat):zcM i t (j+1)=zcM i t j++[if j=i then t else vN j]:=by
 unfold zcM; rw [List.range_succ,List.map_append]; rfl
theorem zcO (i:Nat) (t:T) (j:Nat):(zcM i t j).length=j:=by unfold zcM; simp
def zcP (i j:Nat):List T:=((List.range j).filter fun n=>decide (n≠i)).map vN
theorem zcQ (i j:Nat):zcP i (j+1)=zcP i j++if j=i then [] else [vN j]:=by
 unfold zcP
 rw [List.range_succ,List.filter_append,List.map_append]
 congr 1
 rw [List.filter_cons]
 by_cases h:j=i
 ·simp [h]
 ·simp [h]
theorem zcR (i j:Nat):(zcP i j).length<=j:=by
 unfold zcP
 rw [List.length_map]
 exact Nat.le_trans (List.length_filter_le _ _) (by simp)
theorem zcS {vs:List Int} {v:Int} {j:Nat} (hj:j<vs.length) (hpre:∀ i (h:i<vs.length),i<j->vs[i]≠v) (h:vs[j]=v):zcF vs v=(j:Int):=by
 have:vs.findIdx? (fun x=>decide (x=v))=some j:=by
  rw [List.findIdx?_eq_some_iff_getElem]
  exact ⟨hj,by simpa using h,fun i hi=>by simpa using hpre i (by omega) hi⟩
 unfold zcF; rw [this]
theorem zcT {vs:List Int} {v:Int} (h:∀ i (h:i<vs.length),vs[i]≠v):zcF vs v = -1:=by
 have:vs.findIdx? (fun x=>decide (x=v))=none:=by
  rw [List.findIdx?_eq_none_iff]
  intro x hx
  obtain ⟨i,hi,rfl⟩:=List.getElem_of_mem hx
  simpa using h i hi
 unfold zcF; rw [this]
theorem zcU (vs:List Int):∀ l:List T,numTL vs l=l.map (zcG vs)
 | []=>rfl
 | x :: l=>by rw [numTL,zcU vs l]; rfl
theorem numT_eq (vs:List Int) (t:T):zcG vs t = .mk t.k (if t.k=1 then zcF vs t.n else t.n) t.s (numTL vs t.l):=by cases t; rw [zcG]; rfl
theorem zcV {vs:List Int} {l:List T} {i:Nat} (h:i<l.length):numTL vs (l.take (i+1))=numTL vs (l.take i)++[zcG vs l[i]]:=by
 rw [zcU,zcU,List.take_succ_eq_append_getElem h,List.map_append]; rfl
theorem zcW (vs:List Int) (l:List T):(numTL vs l).length=l.length:=by rw [zcU,List.length_map]
section
variable {B:Nat} {w0:World} {G:Nat->AV}
variable (hG:∀ i,zJV (G i))
include hG
theorem c113_ok:zJD (EV B w0 G) 113 C113:=by
 rintro args σ Q ⟨k,i,t,z,rfl,⟨hk,hi⟩,hQ⟩
 have hH:zIP (EV B w0 G) (hnd (EV B w0 G) zHI zMU [(78,C78)]):=zJJ (zKM B w0 G) (zJI (zZ6 hG) zJH)
 refine zDV.pureD (2*SizeOf.sizeOf (zc9 k i t z)+3) hG (Q0:=fun v σ'=>zUG σ' v (zc9 k i t z)) (fun v hv => ?_) ?_ (fun v σ' k => ?_)
 ·simp only [List.mem_cons,List.not_mem_nil,or_false] at hv
  rcases hv with rfl | rfl | rfl | rfl
  ·exact .int _ _
  ·exact .int _ _
  ·exact zMK _
  ·exact zMK _
 rotate_left
 ·obtain ⟨v',h1,h2⟩:=k.deep
  exact ⟨v',_,h1,h2,zQI _,hQ⟩
 let I:zUC->Prop:=fun y=>y.i<=k/\zcL y.σ y.v (zcM i t y.i)
 let R:zUC->Prop:=fun y=>zcL y.σ y.v (zcM i t k)
 refine zKF (cuts:=[]) (zKM B w0 G) hH (fun lp hl _ Q a' σ kk => ?_) ((vc113 B w0 G k i t z I R _).mpr ⟨⟨zJZ.new (.cells [] 37 4 false),.rslice 0 0 0,0⟩,⟨Nat.zero_le _,.start⟩,⟨rfl,rfl,rfl,rfl,rfl,rfl,rfl,rfl,.refl _⟩,fun y' hy => ?_⟩)
 rotate_left
 ·obtain ⟨σy,v,j⟩:=y'
  have hy:zcL σy v (zcM i t k):=hy
  have e:zc9 k i t z=zcM i t k++[z]:=rfl
  rw [e]
  have hw:=zcO i t k
  rcases hy.cases with ⟨rfl,h⟩ | ⟨id,cs,g,rfl,ho,hcl,h⟩
  ·exact .inl ⟨rfl,⟨by omega,by omega⟩,(h z).toT⟩
  ·exact .inr ⟨⟨id,(zcM i t k).length⟩,rfl,⟨cs,g⟩,ho,⟨rfl,⟨by show ((zcM i t k).length+1)*56<=_; omega,by show (zcM i t k).length+1<=_; omega⟩,hcl⟩,(h z).toT⟩
 change lp∈zKE Tryz.prog [] 113 at hl
 rw [zcC] at hl
 simp only [List.mem_cons,List.not_mem_nil,or_false] at hl
 subst hl
 obtain ⟨y0,hI0,hat,hR⟩:=kk
 refine zK5 (zcB k i t z I) (x0:=y0) (fun y hI => ?_) (fun y hI e a' σ hne kk => ?_) hI0 hat
 ·obtain ⟨σy,v,j⟩:=y
  obtain ⟨hj,hO⟩:=hI
  change j<=k at hj
  change zcL σy v (zcM i t j) at hO
  have hw:=zcO i t j
  refine zP3 hH (zKM B w0 G) (by kernel_rfl) ((vc113l B w0 G k i t z I σy v j).mpr (zE2 (fun h => ?_) (fun h=>⟨fun h2 => ?_,rfl,rfl,rfl,.refl _⟩)))
  ·have h:(j:Int)<(k:Int):=of_decide_eq_true h
   have hk2:j<k:=by omega
   have hs:=zcN i t j
   have hμ:k - (j+1)<k - j:=by omega
   refine zE2 (fun he => ?_) (fun he => ?_)
   ·have he:(j:Int)=(i:Int):=by simpa using he
    rw [if_pos (by omega)] at hs
    rcases hO.cases with ⟨rfl,hx⟩ | ⟨id,cs,g,rfl,ho,hcl,hx⟩
    ·exact .inl ⟨rfl,⟨by omega,by omega⟩,⟨_,.rslice σy.next 0 1,j+1⟩,⟨⟨hk2,by show zcL _ _ (zcM i t (j+1)); rw [hs]; exact hx t⟩,hμ⟩,rfl,rfl,rfl,rfl,rfl,congrArg (fun z=>TV.v (iZ z)) (wI1 hk2 (by omega)),rfl,rfl,.refl _⟩
    ·exact .inr ⟨⟨id,(zcM i t j).length⟩,rfl,⟨cs,g⟩,ho,⟨rfl,⟨by show ((zcM i t j).length+1)*56<=_; omega,by show (zcM i t j).length+1<=_; omega⟩,hcl⟩,⟨_,.rslice σy.next 0 ((zcM i t j).length+1),j+1⟩,⟨⟨hk2,by show zcL _ _ (zcM i t (j+1)); rw [hs]; exact hx t⟩,hμ⟩,rfl,rfl,rfl,rfl,rfl,congrArg (fun z=>TV.v (iZ z)) (wI1 hk2 (by omega)),rfl,rfl,.refl _⟩
   ·have he:¬ (j:Int)=(i:Int):=by simpa using he
    rw [if_neg (by omega)] at hs
    rcases hO.untok.cases with ⟨rfl,hx⟩ | ⟨id,cs,g,rfl,ho,hcl,hx⟩
    ·exact .inl ⟨rfl,_,rfl,⟨by omega,by omega⟩,⟨_,.rslice σy.next 0 1,j+1⟩,⟨⟨hk2,by show zcL _ _ (zcM i t (j+1)); rw [hs]; exact hx (vN j)⟩,hμ⟩,rfl,rfl,rfl,rfl,rfl,congrArg (fun z=>TV.v (iZ z)) (wI1 hk2 (by omega)),rfl,rfl,.refl _⟩
    ·exact .inr ⟨⟨id,(zcM i t j).length⟩,rfl,_,rfl,⟨cs,g⟩,ho,⟨rfl,⟨by show ((zcM i t j).length+1)*56<=_; omega,by show (zcM i t j).length+1<=_; omega⟩,hcl⟩,⟨_,.rslice σy.next 0 ((zcM i t j).length+1),j+1⟩,⟨⟨hk2,by show zcL _ _ (zcM i t (j+1)); rw [hs]; exact hx (vN j)⟩,hμ⟩,rfl,rfl,rfl,rfl,rfl,congrArg (fun z=>TV.v (iZ z)) (wI1 hk2 (by omega)),rfl,rfl,.refl _⟩
  ·have h:¬ (j:Int)<(k:Int):=of_decide_eq_false h
   have h2:j<k:=h2
   omega
 ·obtain ⟨σy,v,j⟩:=y
  obtain ⟨hj,hO⟩:=hI
  change j<=k at hj
  change zcL σy v (zcM i t j) at hO
  cases e with
  | exit q =>
   match q,kk with
   | 0,kk =>
    obtain ⟨hk2,hat⟩:=kk
    have hk2:¬ j<k:=hk2
    rw [show j=k by omega] at hO
    exact ⟨_,_,(zJM hat).1,(zJM hat).2,hR ⟨σy,v,j⟩ hO⟩
  | normal=>exact absurd rfl hne
  | _=>exact kk.elim
theorem c116_ok:zJD (EV B w0 G) 116 C116:=by
 rintro args σ Q ⟨k,i,z,rfl,⟨hk,hi⟩,hQ⟩
 have hH:zIP (EV B w0 G) (hnd (EV B w0 G) zHI zMU [(78,C78)]):=zJJ (zKM B w0 G) (zJI (zZ6 hG) zJH)
 refine zDV.pureD (2*SizeOf.sizeOf (zcA k i z)+3) hG (Q0:=fun v σ'=>zUG σ' v (zcA k i z)) (fun v hv => ?_) ?_ (fun v σ' k => ?_)
 ·simp only [List.mem_cons,List.not_mem_nil,or_false] at hv
  rcases hv with rfl | rfl | rfl
  ·exact .int _ _
  ·exact .int _ _
  ·exact zMK _
 rotate_left
 ·obtain ⟨v',h1,h2⟩:=k.deep
  exact ⟨v',_,h1,h2,zQI _,hQ⟩
 let I:zUC->Prop:=fun y=>y.i<=k/\zcL y.σ y.v (zcP i y.i)
 let R:zUC->Prop:=fun y=>zcL y.σ y.v (zcP i k)
 refine zKF (cuts:=[]) (zKM B w0 G) hH (fun lp hl _ Q a' σ kk => ?_) ((vc116 B w0 G k i z I R _).mpr ⟨⟨zJZ.new (.cells [] 37 4 false),.rslice 0 0 0,0⟩,⟨Nat.zero_le _,.start⟩,⟨rfl,rfl,rfl,rfl,rfl,rfl,.refl _⟩,fun y' hy => ?_⟩)
 rotate_left
 ·obtain ⟨σy,v,j⟩:=y'
  have hy:zcL σy v (zcP i k):=hy
  have e:zcA k i z=zcP i k++[z]:=rfl
  rw [e]
  have hw:=zcR i k
  rcases hy.cases with ⟨rfl,h⟩ | ⟨id,cs,g,rfl,ho,hcl,h⟩
  ·exact .inl ⟨rfl,⟨by omega,by omega⟩,(h z).toT⟩
  ·exact .inr ⟨⟨id,(zcP i k).length⟩,rfl,⟨cs,g⟩,ho,⟨rfl,⟨by show ((zcP i k).length+1)*56<=_; omega,by show (zcP i k).length+1<=_; omega⟩,hcl⟩,(h z).toT⟩
 change lp∈zKE Tryz.prog [] 116 at hl
 rw [zcE] at hl
 simp only [List.mem_cons,List.not_mem_nil,or_false] at hl
 subst hl
 obtain ⟨y0,hI0,hat,hR⟩:=kk
 refine zK5 (zcD k i z I) (x0:=y0) (fun y hI => ?_) (fun y hI e a' σ hne kk => ?_) hI0 hat
 ·obtain ⟨σy,v,j⟩:=y
  obtain ⟨hj,hO⟩:=hI
  change j<=k at hj
  change zcL σy v (zcP i j) at hO
  have hw:=zcR i j
  refine zP3 hH (zKM B w0 G) (by kernel_rfl) ((vc116l B w0 G k i z I σy v j).mpr (zE2 (fun h => ?_) (fun h=>⟨fun h2 => ?_,rfl,rfl,rfl,.refl _⟩)))
  ·have h:(j:Int)<(k:Int):=of_decide_eq_true h
   have hk2:j<k:=by omega
   have hs:=zcQ i j
   have hμ:k - (j+1)<k - j:=by omega
   refine zE2 (fun he => ?_) (fun he => ?_)
   ·have he:¬ (j:Int)=(i:Int):=by simpa using he
    rw [if_neg (by omega)] at hs
    rcases hO.untok.cases with ⟨rfl,hx⟩ | ⟨id,cs,g,rfl,ho,hcl,hx⟩
    ·exact .inl ⟨rfl,_,rfl,⟨by omega,by omega⟩,⟨_,.rslice σy.next 0 1,j+1⟩,⟨⟨hk2,by show zcL _ _ (zcP i (j+1)); rw [hs]; exact hx (vN j)⟩,hμ⟩,rfl,rfl,rfl,rfl,congrArg (fun z=>TV.v (iZ z)) (wI1 hk2 (by omega)),rfl,.refl _⟩
    ·exact .inr ⟨⟨id,(zcP i j).length⟩,rfl,_,rfl,⟨cs,g⟩,ho,⟨rfl,⟨by show ((zcP i j).length+1)*56<=_; omega,by show (zcP i j).length+1<=_; omega⟩,hcl⟩,⟨_,.rslice σy.next 0 ((zcP i j).length+1),j+1⟩,⟨⟨hk2,by show zcL _ _ (zcP i (j+1)); rw [hs]; exact hx (vN j)⟩,hμ⟩,rfl,rfl,rfl,rfl,congrArg (fun z=>TV.v (iZ z)) (wI1 hk2 (by omega)),rfl,.refl _⟩
   ·have he:(j:Int)=(i:Int):=by simpa using he
    rw [if_pos (by omega),List.append_nil] at hs
    exact ⟨⟨σy,v,j+1⟩,⟨⟨hk2,by show zcL _ _ (zcP i (j+1)); rw [hs]; exact hO⟩,hμ⟩,rfl,rfl,rfl,rfl,congrArg (fun z=>TV.v (iZ z)) (wI1 hk2 (by omega)),rfl,.refl _⟩
  ·have h:¬ (j:Int)<(k:Int):=of_decide_eq_false h
   have h2:j<k:=h2
   omega
 ·obtain ⟨σy,v,j⟩:=y
  obtain ⟨hj,hO⟩:=hI
  change j<=k at hj
  change zcL σy v (zcP i j) at hO
  cases e with
  | exit q =>
   match q,kk with
   | 0,kk =>
    obtain ⟨hk2,hat⟩:=kk
    have hk2:¬ j<k:=hk2
    rw [show j=k by omega] at hO
    exact ⟨_,_,(zJM hat).1,(zJM hat).2,hR ⟨σy,v,j⟩ hO⟩
  | normal=>exact absurd rfl hne
  | _=>exact kk.elim
theorem c210_ok:zJD (EV B w0 G) 210 C210:=by
 rintro args σ Q ⟨vs,v,rfl,hlen,hQ⟩
 refine zN1 hG (fun x hx => ?_) (.int _ _) (fun Q hQ => ?_) hQ
 ·simp only [List.mem_cons,List.not_mem_nil,or_false] at hx
  rcases hx with rfl | rfl
  ·exact zPC vs
  ·exact .int _ _
 refine zKF (cuts:=[]) (zKM B w0 G) zMZ (fun lp hl _ Q a' σ kk => ?_) ((vc210 B w0 G vs v Q).mpr ⟨⟨rfl,rfl,rfl,.refl _⟩,fun h σ'=>by rw [h] at hQ; exact hQ σ',fun j h σ'=>by rw [h] at hQ; exact hQ σ'⟩)
 change lp∈zKE Tryz.prog [] 210 at hl
 rw [zcI] at hl
 simp only [List.mem_cons,List.not_mem_nil,or_false] at hl
 subst hl
 obtain ⟨hat,hR1,hR2⟩:=kk
 refine zK5 (zcH vs v (fun j=>j<=vs.length/\∀ i (h:i<vs.length),i<j->vs[i]≠v)) (x0:=0) (fun j hI => ?_) (fun j hI e a' σ hne kk => ?_) ⟨Nat.zero_le _,fun i h h2=>by omega⟩ hat
 ·obtain ⟨hj,hp⟩:j<=vs.length/\∀ i (h:i<vs.length),i<j->vs[i]≠v:=hI
  refine zP3 zMZ (zKM B w0 G) (by kernel_rfl) ((vc210l B w0 G vs v _ j).mpr (zE2 (fun h => ?_) (fun h=>⟨fun h2 => ?_,trivial⟩)))
  ·have h:=of_decide_eq_true h
   rw [zPA] at h
   have hj2:j<vs.length:=by omega
   refine ⟨⟨by omega,by rw [zPA]; exact h⟩,vs[j],by rw [Int.toNat_natCast]; exact zPB hj2,zE2 (fun he=>⟨zcS hj2 hp (by simpa using he),rfl,trivial⟩) (fun he=>⟨j+1,⟨⟨hj2,fun i hi h3 => ?_⟩,?_⟩,rfl,rfl,?_,.refl _⟩)⟩
   ·by_cases e:i=j
    ·subst e; simpa using he
    ·exact hp i hi (by omega)
   ·show vs.length - (j+1)<vs.length - j
    omega
   ·rw [wI1 hj2 (by omega)]
  ·have h:=of_decide_eq_false h
   rw [zPA] at h
   omega
 ·obtain ⟨hj,hp⟩:j<=vs.length/\∀ i (h:i<vs.length),i<j->vs[i]≠v:=hI
  cases e with
  | exit q =>
   match q,kk with
   | 0,kk =>
    have hk:¬ j<vs.length:=kk.1
    exact ⟨_,σ,(zJM kk.2).1,.refl _,hR1 (zcT fun i hi=>hp i hi (by omega)) σ⟩
  | ret=>exact ⟨_,σ,(zJM kk.2).1,.refl _,hR2 j kk.1 σ⟩
  | normal=>exact absurd rfl hne
  | _=>exact kk.elim
theorem zcX:∀ N,zJD (EV B w0 G) 186 (C186 N)
 | 0=>by
  rintro args σ Q ⟨t,vs,rfl,⟨_,hN,_⟩,hQ⟩
  omega
 | N+1=>by
  rintro args σ Q ⟨t,vs,rfl,⟨hs,hN,hlen⟩,hQ⟩
  have hH:zIP (EV B w0 G) (H186 (EV B w0 G) N):=zJJ (zKM B w0 G) (zJI (c210_ok hG) (zJI (zcX N) zJH))
  have h64:=T.small_len hs
  let n:Int:=if t.k=1 then zcF vs t.n else t.n
  refine zDV.pureD (2*SizeOf.sizeOf (numTL vs t.l)+4) hG (Q0:=fun v σ'=>∃ w,v = .agg [iZ t.k,iZ n,.str t.s,w]/\zUG σ' w (numTL vs t.l)) (fun v hv => ?_) ?_ (fun v σ' k => ?_)
  ·simp only [List.mem_cons,List.not_mem_nil,or_false] at hv
   rcases hv with rfl | rfl
   ·exact zMK t
   ·exact zPC vs
  rotate_left
  ·obtain ⟨w,rfl,hO⟩:=k
   obtain ⟨v',h1,h2⟩:=hO.deep
   rw [numT_eq] at hQ
   exact ⟨_,_,zaO (t:=.mk t.k n t.s []) h1,Wk.agg (.cons (.refl _) (.cons (.refl _) (.cons (.refl _) (.cons h2 .nil)))),zMK (.mk t.k n t.s (numTL vs t.l)),hQ⟩
  let I:zUC->Prop:=fun y=>y.i<=t.l.length/\zcL y.σ y.v (numTL vs (t.l.take y.i))
  let R:zA6->AV->Prop:=fun σ v=>zcL σ v (numTL vs t.l)
  have fin:(∀ σ':zA6,R σ' .nilslice->∃ w,AV.agg [iZ t.k,iZ n,.str t.s,.nilslice] = .agg [iZ t.k,iZ n,.str t.s,w]/\zUG σ' w (numTL vs t.l)) /\
    (∀ (σ':zA6) (id m:Nat),R σ' (.rslice id 0 m)->∃ w,AV.agg [iZ t.k,iZ n,.str t.s,.rslice id 0 m] = .agg [iZ t.k,iZ n,.str t.s,w]/\zUG σ' w (numTL vs t.l)) :=
   ⟨fun σ' h=>⟨_,rfl,zcL.toT h⟩,fun σ' id m h=>⟨_,rfl,zcL.toT h⟩⟩
  refine zKF (cuts:=[]) (zKM B w0 G) hH (fun lp hl _ Q a' σ kk => ?_) ((vc186v B w0 G N t vs n I R _).mpr (zE2 (fun hk => ?_) (fun hk => ?_)))
  ·change lp∈zKE Tryz.prog [] 186 at hl
   rw [zcK] at hl
   simp only [List.mem_cons,List.not_mem_nil,or_false] at hl
   subst hl
   obtain ⟨y0,hI0,hat,hR1,hR2⟩:=kk
   refine zK5 (zcJ t vs n I) (x0:=y0) (fun y hI => ?_) (fun y hI e a' σ hne kk => ?_) hI0 hat
   ·obtain ⟨σy,v,i⟩:=y
    obtain ⟨hi,hO⟩:=hI
    change i<=t.l.length at hi
    change zcL σy v (numTL vs (t.l.take i)) at hO
    refine zP3 hH (zKM B w0 G) (by kernel_rfl) ((vc186l B w0 G N t vs n I σy v i).mpr (zE2 (fun h => ?_) (fun h=>⟨fun h2 => ?_,rfl,rfl,rfl,rfl,.refl _⟩)))
    ·have h:=of_decide_eq_true h
     rw [zMH] at h
     have h:(i:Int)<(t.l.length:Int):=h
     have hk2:i<t.l.length:=by omega
     have hm:=List.getElem_mem hk2
     have hN':t.l[i].small/\SizeOf.sizeOf t.l[i]<N/\vs.length<=1000000:=⟨T.small_mem hs hm,by have:=T.sizeOf_mem hm; omega,hlen⟩
     have hs2:=zcV (vs:=vs) hk2
     have hle:(numTL vs (t.l.take i)).length=i:=by rw [zcW,List.length_take]; omega
     have hμ:t.l.length - (i+1)<t.l.length - i:=by omega
     have hg:AV.vptr (AV.cells (List.getD (tcellL t.l) (Int.toNat (i:Int)) AV.undef)) = .vptr (tc t.l[i]):=by rw [Int.toNat_natCast]; exact zNA hk2
     have hb:(0:Int)<=(i:Int)/\(i:Int)<((tcellL t.l).length:Int):=⟨by omega,by rw [zMH]; exact h⟩
     rcases hO.untok.cases with ⟨rfl,hx⟩ | ⟨id,cs,g,rfl,ho,hcl,hx⟩
     ·exact .inl ⟨rfl,hb,t.l[i],hg,t.l[i],vs,rfl,hN',rfl,.inl ⟨rfl,rfl⟩,⟨by omega,by omega⟩,⟨_,.rslice σy.next 0 1,i+1⟩,⟨⟨hk2,by show zcL _ _ (numTL vs (t.l.take (i+1))); rw [hs2]; exact hx _⟩,hμ⟩,rfl,rfl,rfl,rfl,congrArg (fun z=>TV.v (iZ z)) (wI1 hk2 (by omega)),rfl,rfl,rfl,.refl _⟩
     ·exact .inr ⟨⟨id,(numTL vs (t.l.take i)).length⟩,rfl,hb,t.l[i],hg,t.l[i],vs,rfl,hN',rfl,.inr ⟨⟨id,(numTL vs (t.l.take i)).length⟩,rfl,rfl⟩,⟨cs,g⟩,ho,⟨rfl,⟨by show ((numTL vs (t.l.take i)).length+1)*56<=_; omega,by show (numTL vs (t.l.take i)).length+1<=_; omega⟩,hcl⟩,⟨_,.rslice σy.next 0 ((numTL vs (t.l.take i)).length+1),i+1⟩,⟨⟨hk2,by show zcL _ _ (numTL vs (t.l.take (i+1))); rw [hs2]; exact hx _⟩,hμ⟩,rfl,rfl,rfl,rfl,congrArg (fun z=>TV.v (iZ z)) (wI1 hk2 (by omega)),rfl,rfl,rfl,.refl _⟩
    ·have h:=of_decide_eq_false h
     rw [zMH] at h
     have h2:i<t.l.length:=h2
     exact h (by show (i:Int)<_; omega)
   ·obtain ⟨σy,v,i⟩:=y
    obtain ⟨hi,hO⟩:=hI
    change i<=t.l.length at hi
    change zcL σy v (numTL vs (t.l.take i)) at hO
    cases e with
    | exit q =>
     match q,kk with
     | 0,kk =>
      obtain ⟨hk2,hat⟩:=kk
      have hk2:¬ i<t.l.length:=hk2
      rw [show i=t.l.length by omega,List.take_length] at hO
      rcases hO.cases with ⟨rfl,_⟩ | ⟨id,cs,g,rfl,_⟩
      ·exact ⟨_,_,(zJM hat).1,(zJM hat).2,hR1 σy hO⟩
      ·exact ⟨_,_,(zJM hat).1,(zJM hat).2,hR2 σy _ _ hO⟩
    | normal=>exact absurd rfl hne
    | _=>exact kk.elim
  ·have hk:t.k=1:=by simpa using hk
   have hn:zcF vs t.n=n:=by show _=if t.k=1 then _ else _; rw [if_pos hk]
   exact ⟨vs,t.n,rfl,hlen,⟨zJZ,.nilslice,0⟩,⟨Nat.zero_le _,.none⟩,⟨rfl,rfl,rfl,rfl,rfl,rfl,rfl,by rw [hn],zSM⟩,fin⟩
  ·have hk:¬ t.k=1:=by simpa using hk
   have hn:t.n=n:=by show _=if t.k=1 then _ else _; rw [if_neg hk]
   exact ⟨⟨zJZ,.nilslice,0⟩,⟨Nat.zero_le _,.none⟩,⟨rfl,rfl,rfl,rfl,rfl,rfl,rfl,by rw [<-hn],.refl _⟩,fin⟩
end
end Go.V
