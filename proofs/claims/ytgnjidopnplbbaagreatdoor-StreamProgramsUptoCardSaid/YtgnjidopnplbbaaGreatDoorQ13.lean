/- A part of the proof of the statement S8 (texts brought together and shortened by a program of this work). -/
import Derived.Test.YtgnjidopnplbbaaGreatDoorQ12
import Derived.Test.YtgnjidopnplbbaaGreatDoorQ11
import Derived.Test.YtgnjidopnplbbaaGreatDoorQ8
set_option maxRecDepth 1000000
set_option linter.unusedVariables false
namespace Go.V
open Go Go.Proofs

def zND (t:T):Int:=if zN4 t 4000 600 > 4000 then 3 else 0
def C129:zJC:=fun args σ K=>args=[]/\K zMM σ.untok
def H66 (E:Env) (N:Nat):zDY:=hnd E zHI zMU [(129,C129),(130,C130 N)]
theorem vc66 (B:Nat) (w0:World) (G:Nat->AV) (N:Nat) (t:T) (Q:AV->zA6->Prop):(zJ6 (EV B w0 G) (H66 (EV B w0 G) N) (fun _ _ _ _=>False) zHI zMV 66 [.agg (tc t)] zJZ Q) =
 (([]:List AV)=[]/\
 ∃ t0:T,∃ left1:Int,∃ deep2:Int,[AV.agg (tc t),iZ 4000,iZ 600,AV.agg [AV.nilfunc,AV.func (Go.Fn.func 151) [] [AV.vptr [AV.func (Go.Fn.func 150) [] []]],AV.func (Go.Fn.func 152) [] [AV.vptr [AV.func (Go.Fn.func 150) [] []]],AV.func (Go.Fn.func 153) [] [AV.vptr [AV.func (Go.Fn.func 150) [] []]],AV.func (Go.Fn.func 155) [] [AV.vptr [AV.func (Go.Fn.func 150) [] []]],AV.func (Go.Fn.func 156) [] [AV.vptr [AV.func (Go.Fn.func 150) [] []]],AV.func (Go.Fn.func 157) [] [AV.vptr [AV.func (Go.Fn.func 150) [] []]]]]=[AV.agg (tc t0),iZ left1,iZ deep2,AV.agg [AV.nilfunc,AV.func (Go.Fn.func 151) [] [AV.vptr [AV.func (Go.Fn.func 150) [] []]],AV.func (Go.Fn.func 152) [] [AV.vptr [AV.func (Go.Fn.func 150) [] []]],AV.func (Go.Fn.func 153) [] [AV.vptr [AV.func (Go.Fn.func 150) [] []]],AV.func (Go.Fn.func 155) [] [AV.vptr [AV.func (Go.Fn.func 150) [] []]],AV.func (Go.Fn.func 156) [] [AV.vptr [AV.func (Go.Fn.func 150) [] []]],AV.func (Go.Fn.func 157) [] [AV.vptr [AV.func (Go.Fn.func 150) [] []]]]]/\
 SizeOf.sizeOf t0<N/\
 bcase (decide (zN4 t0 left1 deep2 > 4000))
 (Q (iZ 3) (Ut (Ut zJZ)))
 (Q (iZ 0) (Ut (Ut zJZ)))):=by kernel_rfl
def C66:zJC:=fun args σ K=>∃ t:T,args=[.agg (tc t)]/\K (iZ (zND t)) σ.untok

mutual
def T.small:T->Prop
 | .mk _ _ _ l=>l.length<=64/\smallL l
def smallL:List T->Prop
 | []=>True
 | x :: l=>x.small/\smallL l
end

mutual
def same:T->T->Bool
 | .mk k n s l,u=>k==u.k&&(n==u.n&&(zAI s u.s&&(((l.length:Int)==(u.l.length:Int))&&sameL l u.l)))
def sameL:List T->List T->Bool
 | x :: l,y :: m=>same x y&&sameL l m
 | _,_=>true
end

def C33 (N:Nat):zJC:=fun args σ K=>∃ (a b:T),args=[.agg (tc a),.agg (tc b)]/\(a.small/\SizeOf.sizeOf a<N)/\K (.bool (same a b)) σ.untok
def H33 (E:Env) (N:Nat):zDY:=hnd E zHI zMU [(33,C33 N)]
def N33:zIE:=fun id i=>match Nat.beq id 6&&(Nat.beq i 3 || Nat.beq i 8) with
 | true=>zIB.as (fun t:T => .vptr (tc t))
 | false=>zIB.no
def li33 (x y:T):LI Nat where
 F i:=[(2,.l 2 0),(3,.l 3 0),(5,.v (iZ i))]
 FL _:=[(2,tc x),(3,tc y)]
 L _:=[]
 m _:=0
 I i:=i<=x.l.length/\sameL x.l y.l=sameL (x.l.drop i) (y.l.drop i)
 μ i:=x.l.length - i
 Ex _ e a σ:=match e with
  | .exit 0=>sameL x.l y.l=true/\zJQ a σ [] [] [] 0
  | .ret=>sameL x.l y.l=false/\zJQ a σ [(4,.v (.bool false))] [] [] 0
  | _=>False
theorem zNE:zJ7 Tryz.prog 33=[.loop (zJU Tryz.prog 33 0)]:=by kernel_rfl
theorem vc33l (B:Nat) (w0:World) (G:Nat->AV) (N:Nat) (x y:T) (i:Nat):(wpC (EV B w0 G) (H33 (EV B w0 G) N) (fun _ _ _ _=>False) (zHI 33) N33 (zJU Tryz.prog 33 0) ((li33 x y).post i) (frm ((li33 x y).F i) ((li33 x y).FL i)) (lst ((li33 x y).L i) ((li33 x y).m i))) =
 (bcase (decide ((↑i:Int)<(↑(List.length (tcellL (T.l x))):Int)))
 ((0<=(↑i:Int)/\
 (↑i:Int)<(↑(List.length (tcellL (T.l x))):Int))/\
 ∃ x0:T,AV.vptr (AV.cells (List.getD (tcellL (T.l x)) (Int.toNat (↑i:Int)) AV.undef))=AV.vptr (tc x0)/\
 (0<=(↑i:Int)/\
 (↑i:Int)<(↑(List.length (tcellL (T.l y))):Int))/\
 ∃ x1:T,AV.vptr (AV.cells (List.getD (tcellL (T.l y)) (Int.toNat (↑i:Int)) AV.undef))=AV.vptr (tc x1)/\
 ∃ a2:T,∃ b3:T,[AV.agg (tc x0),AV.agg (tc x1)]=[AV.agg (tc a2),AV.agg (tc b3)]/\
 (T.small a2/\
 SizeOf.sizeOf a2<N)/\
 bcase (!same a2 b3)
 (sameL (T.l x) (T.l y)=false/\
 Rf (TV.v (AV.bool false))/\
 0=0/\
 True)
 (∃ x'4:Nat,((x'4<=List.length (T.l x)/\
 (sameL (T.l x) (T.l y))=sameL (List.drop x'4 (T.l x)) (List.drop x'4 (T.l y)))/\
 LI.μ (li33 x y) x'4<LI.μ (li33 x y) i)/\
 Rf (TV.l 2 0)/\
 Rf (TV.l 3 0)/\
 (TV.v (iZ (IntKind.wrap .i64 ((↑i:Int)+1))))=TV.v (iZ (↑x'4:Int))/\
 Rf (tc x)/\
 Rf (tc y)/\
 0=0/\
 True))
 (sameL (T.l x) (T.l y)=true/\
 0=0/\
 True)):=by kernel_rfl
def L33 (x y:T):zFV:=fun _ Q a σ=>x.l.length=y.l.length/\zJQ a σ ((li33 x y).F 0) ((li33 x y).FL 0) [] 0 /\
 ((sameL x.l y.l=true->Q (.exit 0) (frm [] []) (lst [] 0))/\(sameL x.l y.l=false->Q .ret (frm [(4,.v (.bool false))] []) (lst [] 0)))
theorem vc33 (B:Nat) (w0:World) (G:Nat->AV) (N:Nat) (x y:T) (Q:AV->zA6->Prop):(zJ6 (EV B w0 G) (H33 (EV B w0 G) N) (L33 x y) zHI N33 33 [.agg (tc x),.agg (tc y)] zJZ Q) =
 (bcase (T.k x != T.k y)
 (Q (AV.bool false) zJZ)
 (bcase (T.n x != T.n y)
 (Q (AV.bool false) zJZ)
 (bcase (!zAI (T.s x) (T.s y))
 (Q (AV.bool false) zJZ)
 (bcase ((↑(List.length (tcellL (T.l x))):Int) != (↑(List.length (tcellL (T.l y))):Int))
 (Q (AV.bool false) zJZ)
 (List.length (T.l x)=List.length (T.l y)/\
 (Rf (TV.l 2 0)/\
 Rf (TV.l 3 0)/\
 Rf (TV.v (iZ 0))/\
 Rf (tc x)/\
 Rf (tc y)/\
 0=0/\
 True)/\
 ((sameL (T.l x) (T.l y)=true)->(Q (AV.bool true) (lst [] 0)))/\
 ((sameL (T.l x) (T.l y)=false)->(Q (AV.bool false) (lst [] 0)))))))):=by kernel_rfl
end Go.V
set_option linter.unusedSimpArgs false
set_option linter.unusedSectionVars false
namespace Go.V
open Go Go.Proofs

theorem T.small_len {t:T} (h:t.small):t.l.length<=64:=by
 cases t; rw [T.small] at h; exact h.1
theorem zNF:∀ {l:List T},smallL l->∀ x∈l,x.small
 | [],_,x,hx=>by cases hx
 | y :: l,h,x,hx=>by
  rw [smallL] at h
  rcases List.mem_cons.1 hx with rfl | hx
  ·exact h.1
  ·exact zNF h.2 x hx
theorem T.small_mem {t x:T} (h:t.small) (hx:x∈t.l):x.small:=by
 cases t; rw [T.small] at h; exact zNF h.2 x hx

theorem zNG (x y:T):same x y=(x.k==y.k&&(x.n==y.n&&(zAI x.s y.s&&(((x.l.length:Int)==(y.l.length:Int))&&sameL x.l y.l)))):=by
 cases x; rw [same]; rfl
theorem zNH {l m:List T} {i:Nat} (h1:i<l.length) (h2:i<m.length):sameL (l.drop i) (m.drop i)=(same l[i] m[i]&&sameL (l.drop (i+1)) (m.drop (i+1))):=by
 rw [List.drop_eq_getElem_cons h1,List.drop_eq_getElem_cons h2,sameL]

section
variable {B:Nat} {w0:World} {G:Nat->AV}
theorem zNI (B:Nat) (w0:World) (G:Nat->AV):zHD (EV B w0 G) zHI (fun _=>none) 300 200 (.fn 129) [] zJZ (zLP zMM)=true:=by kernel_rfl

theorem loop33 {N:Nat} {x y:T} (hH:zIP (EV B w0 G) (H33 (EV B w0 G) N)) (hN:∀ z∈x.l,z.small/\SizeOf.sizeOf z<N) (h64:x.l.length<=64) (Q:zDW) (a:zDN) (σ:zA6) (h:L33 x y (.loop (zJU Tryz.prog 33 0)) Q a σ) :
  AWp (EV B w0 G) none (zJ8 Tryz.prog 33) (.loop (zJU Tryz.prog 33 0)) Q a σ:=by
 obtain ⟨hxy,h1,h2,h3⟩:=h
 refine zJS (li33 x y) (x0:=0) (fun i hI=>zN0 (zKM B w0 G) hH (by kernel_rfl) (by kernel_rfl) ((vc33l B w0 G N x y i).mpr ?_)) (fun z hI e a σ hne k => ?_) ⟨Nat.zero_le _,by simp⟩ h1
 ·obtain ⟨hi,hc⟩:=hI
  rw [zMH,zMH]
  refine zE2 (fun hb => ?_) (fun hb => ?_)
  ·have hb:i<x.l.length:=by simpa using hb
   have hb':i<y.l.length:=by omega
   rw [zNH hb hb'] at hc
   have hm:=hN _ (List.getElem_mem hb)
   refine ⟨⟨by omega,by omega⟩,x.l[i],by rw [Int.toNat_natCast]; exact zNA hb,⟨by omega,by omega⟩,y.l[i],by rw [Int.toNat_natCast]; exact zNA hb',x.l[i],y.l[i],rfl,hm,zE2 (fun h4 => ?_) (fun h4 => ?_)⟩
   ·have h4:same x.l[i] y.l[i]=false:=by simpa using h4
    rw [h4] at hc
    exact ⟨hc,rfl,rfl,trivial⟩
   ·have h4:same x.l[i] y.l[i]=true:=by simpa using h4
    rw [h4,Bool.true_and] at hc
    exact ⟨i+1,⟨⟨hb,hc⟩,show x.l.length - (i+1)<x.l.length - i by omega⟩,rfl,rfl,by
     have:IntKind.wrap .i64 ((i:Int)+1)=((i+1:Nat):Int):=by rw [zN8 (by omega) (by omega)]; omega
     rw [this],rfl,rfl,rfl,trivial⟩
  ·have hb:¬ i<x.l.length:=by simpa using hb
   have e:sameL (List.drop i x.l) (List.drop i y.l)=true:=by
    rw [List.drop_of_length_le (by omega)]
    rfl
   exact ⟨by rw [hc,e],rfl,trivial⟩
 ·cases e with
  | exit id =>
   cases id with
   | zero=>exact zJT (F:=[]) (FL:=[]) (L:=[]) (m:=0) k.2 (h2 k.1)
   | succ id=>exact k.elim
  | ret=>exact zJT (F:=[(4,.v (.bool false))]) (FL:=[]) (L:=[]) (m:=0) k.2 (h3 k.1)
  | normal=>exact absurd rfl hne
  | _=>exact k.elim

variable (hG:∀ i,zJV (G i))
include hG
theorem zNJ:zJD (EV B w0 G) 129 C129:=by
 rintro args σ Q ⟨rfl,hQ⟩
 refine zDV.pureD 60 hG (by simp) (zHF (zKM B w0 G) (T:=fun _=>none) (fun f h e=>by cases e) 200 (.fn 129) [] zJZ _ (zNI B w0 G)) fun v σ' k => ?_
 unfold zLP at k
 split at k
 ·rename_i v' hv'
  have:=AV.same_ok _ _ k
  subst this
  exact ⟨_,_,hv',.refl _,zNB hG,hQ⟩
 ·cases k

theorem c66_ok:zJD (EV B w0 G) 66 C66:=by
 rintro args σ Q ⟨t,rfl,hQ⟩
 refine zN1 hG (fun v hv => ?_) (.int _ _) (fun Q hQ => ?_) hQ
 ·simp only [List.mem_cons,List.not_mem_nil,or_false] at hv
  subst hv
  exact zMK t
 refine zJ9 (zKM B w0 G) (zJJ (zKM B w0 G) (zJI (zNJ hG) (zJI (zNC hG (SizeOf.sizeOf t+1)) zJH))) (fun l hl _ Q a σ k=>k.elim) ((vc66 B w0 G (SizeOf.sizeOf t+1) t Q).mpr ?_)
 refine ⟨rfl,t,4000,600,rfl,Nat.lt_succ_self _,zE2 (fun h => ?_) (fun h => ?_)⟩
 ·have h:zN4 t 4000 600 > 4000:=of_decide_eq_true h
  have:=hQ (zA6.untok (zA6.untok zJZ))
  unfold zND at this
  rw [if_pos h] at this; exact this
 ·have h:¬ zN4 t 4000 600 > 4000:=of_decide_eq_false h
  have:=hQ (zA6.untok (zA6.untok zJZ))
  unfold zND at this
  rw [if_neg h] at this; exact this

theorem c33_ok:∀ N,zJD (EV B w0 G) 33 (C33 N)
 | 0=>by
  rintro args σ Q ⟨x,y,rfl,hN,hQ⟩
  omega
 | N+1=>by
  rintro args σ Q ⟨x,y,rfl,⟨hs,hN⟩,hQ⟩
  have hH:zIP (EV B w0 G) (H33 (EV B w0 G) N):=zJJ (zKM B w0 G) (zJI (c33_ok N) zJH)
  refine zN1 hG (fun v hv => ?_) (.bool _) (fun Q hQ => ?_) hQ
  ·simp only [List.mem_cons,List.not_mem_nil,or_false] at hv
   rcases hv with rfl | rfl
   ·exact zMK x
   ·exact zMK y
  refine zJ9 (zKM B w0 G) hH (fun l hl _ Q a σ k => ?_) ((vc33 B w0 G N x y Q).mpr ?_)
  ·change l∈zJ7 Tryz.prog 33 at hl
   rw [zNE] at hl
   simp only [List.mem_cons,List.not_mem_nil,or_false] at hl
   subst hl
   exact loop33 hH (fun z hz=>⟨T.small_mem hs hz,by have:=T.sizeOf_mem hz; omega⟩) (T.small_len hs) Q a σ k
  ·rw [zMH,zMH]
   rw [zNG] at hQ
   refine zE2 (fun h1 => ?_) (fun h1=>zE2 (fun h2 => ?_) (fun h2=>zE2 (fun h3 => ?_) (fun h3=>zE2 (fun h4 => ?_) (fun h4=>⟨Int.ofNat_inj.1 (by simpa [bne] using h4),⟨rfl,rfl,rfl,rfl,rfl,rfl,trivial⟩,fun h5 => ?_,fun h5 => ?_⟩))))
   ·have e:(x.k==y.k)=false:=by simpa [bne] using h1
    rw [e] at hQ; exact hQ _
   ·have e1:(x.k==y.k)=true:=by simpa [bne] using h1
    have e:(x.n==y.n)=false:=by simpa [bne] using h2
    rw [e1,e] at hQ; exact hQ _
   ·have e1:(x.k==y.k)=true:=by simpa [bne] using h1
    have e2:(x.n==y.n)=true:=by simpa [bne] using h2
    have e:zAI x.s y.s=false:=by simpa using h3
    rw [e1,e2,e] at hQ; exact hQ _
   ·have e1:(x.k==y.k)=true:=by simpa [bne] using h1
    have e2:(x.n==y.n)=true:=by simpa [bne] using h2
    have e3:zAI x.s y.s=true:=by simpa using h3
    have e:((x.l.length:Int)==(y.l.length:Int))=false:=by simpa [bne] using h4
    rw [e1,e2,e3,e] at hQ; exact hQ _
   ·have e1:(x.k==y.k)=true:=by simpa [bne] using h1
    have e2:(x.n==y.n)=true:=by simpa [bne] using h2
    have e3:zAI x.s y.s=true:=by simpa using h3
    have e:((x.l.length:Int)==(y.l.length:Int))=true:=by simpa [bne] using h4
    rw [e1,e2,e3,e,h5] at hQ; exact hQ _
   ·have e1:(x.k==y.k)=true:=by simpa [bne] using h1
    have e2:(x.n==y.n)=true:=by simpa [bne] using h2
    have e3:zAI x.s y.s=true:=by simpa using h3
    have e:((x.l.length:Int)==(y.l.length:Int))=true:=by simpa [bne] using h4
    rw [e1,e2,e3,e,h5] at hQ; exact hQ _
end
end Go.V
namespace Go.V
open Go Go.Proofs

def zNK:List AV:=[iZ 0,iZ 0,.str ⟨⟨[]⟩⟩,.nilslice]
end Go.V
namespace Go.V
open Go Go.Proofs

mutual
theorem zNL (P:Program) (σ:zA6):∀ (t:T) (n:Nat),2*SizeOf.sizeOf t<n->deep P σ n (zME t)=some (zME t)
 | .mk k m s l,0,h=>by omega
 | .mk k m s l,1,h=>by simp at h; omega
 | .mk k m s l,n+2,h=>by
  have hl:(tcellL l).mapM (deep P σ n)=some (tcellL l):=deep_tcellL P σ l n (by simp at h; omega)
  rw [zME]
  simp only [deep,List.mapM_cons,List.mapM_nil,Option.pure_def,Option.bind_eq_bind,Option.bind_some,hl,Option.map_some,zK1]
theorem deep_tcellL (P:Program) (σ:zA6):∀ (l:List T) (n:Nat),2*SizeOf.sizeOf l<n->(tcellL l).mapM (deep P σ n)=some (tcellL l)
 | [],n,h=>by simp [tcellL]
 | t :: l,n,h=>by
  rw [tcellL,List.mapM_cons,zNL P σ t n (by simp at h; omega),deep_tcellL P σ l n (by simp at h; omega)]
  rfl
end

end Go.V
namespace Go.V
open Go Go.Proofs

theorem zNM {t:T} (h:zN2 t=true):t.l.length<=64:=by
 unfold zN2 at h
 split at h
 ·simp only [Bool.and_eq_true,decide_eq_true_eq] at h; omega
 ·split at h
  ·simp only [Bool.and_eq_true,decide_eq_true_eq] at h; omega
  ·split at h
   ·simp only [Bool.and_eq_true,decide_eq_true_eq] at h; omega
   ·split at h
    ·simp only [Bool.and_eq_true,decide_eq_true_eq] at h; omega
    ·split at h
     ·simp only [Bool.and_eq_true,decide_eq_true_eq] at h; omega
     ·split at h
      ·simp only [Bool.and_eq_true,decide_eq_true_eq] at h; omega
      ·cases h

theorem wr_id {n:Int} (h1:-1000000<=n) (h2:n<=1000000):wr n=n:=zN8 (by omega) (by omega)

mutual
theorem zNN:∀ (t:T) (left deep:Int),0<=left->left<=4000->(1<=zN4 t left deep/\zN4 t left deep<=left+1)/\(zN4 t left deep<=left->t.small)
 | .mk k n s l,left,deep,h0,h1=>by
  rw [zN4]
  split
  ·rename_i hb
   have hl:1<=left:=by
    unfold zN3 at hb
    simp at hb; omega
   have hf:zN2 (.mk k n s l)=true:=by
    unfold zN3 at hb
    simp at hb; exact hb.2.2
   have h2:=countL_small l 1 left deep (by omega) hl h1
   exact ⟨h2.1,fun h=>by rw [T.small]; exact ⟨zNM hf,h2.2 h⟩⟩
  ·rw [wr_id (by omega) (by omega)]
   exact ⟨⟨by omega,by omega⟩,fun h=>by omega⟩
theorem countL_small:∀ (l:List T) (n left deep:Int),1<=n->n<=left->left<=4000->(1<=countL l n left deep/\countL l n left deep<=left+1)/\(countL l n left deep<=left->smallL l)
 | [],n,left,deep,h0,h1,h2=>by
  rw [countL]
  exact ⟨⟨by omega,by omega⟩,fun _=>by rw [smallL]; trivial⟩
 | x :: l,n,left,deep,h0,h1,h2=>by
  rw [countL,wr_id (n:=left - n) (by omega) (by omega)]
  have hx:=zNN x (left - n) (wr (deep - 1)) (by omega) (by omega)
  generalize zN4 x (left - n) (wr (deep - 1))=c at hx
  rw [wr_id (n:=n+c) (by omega) (by omega)]
  split
  ·rw [wr_id (by omega) (by omega)]
   exact ⟨⟨by omega,by omega⟩,fun h=>by omega⟩
  ·rename_i hc
   have hl:=countL_small l (n+c) left deep (by omega) (by omega) h2
   exact ⟨hl.1,fun h=>by rw [smallL]; exact ⟨hx.2 (by omega),hl.2 h⟩⟩
end

theorem zNO {t:T} (h:zND t=0):t.small:=by
 unfold zND at h
 split at h
 ·cases h
 ·exact (zNN t 4000 600 (by omega) (by omega)).2 (by omega)

theorem zNP:∀ (l:List T),(zA0 (tcellL l)).length=l.length*4
 | []=>rfl
 | x :: l=>by
  rw [tcellL,zC3,List.length_append,zNP l,zMF]
  show 4+l.length*4=_
  simp; omega
theorem zNQ:(∀ t:T,same t t=true)/\(∀ l:List T,sameL l l=true):=by
 have h:∀ n:Nat,(∀ t:T,SizeOf.sizeOf t<n->same t t=true)/\(∀ l:List T,SizeOf.sizeOf l<n->sameL l l=true):=by
  intro n
  induction n with
  | zero=>exact ⟨fun t h=>by omega,fun l h=>by omega⟩
  | succ n ih =>
   refine ⟨fun t h => ?_,fun l h => ?_⟩
   ·rw [zNG]
    have hb:zAI t.s t.s=true:=by simp [zAI]
    rw [hb,ih.2 t.l (by have:=t.sizeOf_l; omega)]
    simp
   ·cases l with
    | nil=>rfl
    | cons x l =>
     simp at h
     rw [sameL,ih.1 x (by omega),ih.2 l (by omega)]; rfl
 exact ⟨fun t=>(h (SizeOf.sizeOf t+1)).1 t (Nat.lt_succ_self _),fun l=>(h (SizeOf.sizeOf l+1)).2 l (Nat.lt_succ_self _)⟩

def C16:zJC:=fun args σ K=>args=[]/\K (.bool true) σ.untok
section
variable {B:Nat} {w0:World}
theorem c16_ok:zJD (EV B w0 G1) 16 C16:=by
 rintro args σ Q ⟨rfl,hQ⟩
 exact sane_ok B w0 hQ
end
end Go.V
