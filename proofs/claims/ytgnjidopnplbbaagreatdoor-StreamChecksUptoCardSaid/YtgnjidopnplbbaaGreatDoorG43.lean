import Derived.Test.YtgnjidopnplbbaaGreatDoorG42
/- Conditions: the reference's ground and lists. -/
set_option maxRecDepth 1000000
set_option linter.unusedVariables false
namespace Go.V
open Go Go.Proofs

def H64 (E:Env) (N:Nat):Hand:=hnd E annA noHints [(32,C32),(128,C128 N)]
structure Y64 where
 σ:State
 i:Nat
def ls64 (l:List T) (I:Y64 -> Prop):LS Y64 where
 F y:=[(0,.v (slV l)),(3,.v (.int .i64 (y.i:Int)))]
 FL _:=[]
 S y:=y.σ
 I:=I
 μ y:=l.length - y.i
 Ex y e a σ:=match e with
  | .exit 0 => ¬ (y.i < l.length) /\ atF a [] [] (y.σ.Le σ)
  | .ret => (∃ x ∈ l,grT x = false) /\ atF a [(2,.v (.bool false))] [] True
  | _ => False
def N64:FnHint:=hAt [(4,2,hT),(4,9,hT),(4,12,hRSn)]
theorem fnParts_64:fnParts Tryz.prog [] 64 = [.loop (bodyOf (fnPart Tryz.prog [] 64 0))]:=by kernel_rfl
theorem vc64l (B:Nat) (w0:World) (G:Nat -> AV) (N:Nat) (l:List T) (I:Y64 -> Prop) (y:Y64):(wpX [] (EV B w0 G) (H64 (EV B w0 G) N) (fun _ _ _ _ => False) (annA 64) N64 (bodyOf (fnPart Tryz.prog [] 64 0)) ((ls64 l I).post y) (frm [(0,.v (slV l)),(3,.v (.int .i64 (y.i:Int)))] []) y.σ) =
 ((bcase (decide ((((Y64.i y:Nat):Int):Int) < (((List.length (tcellL l)):Nat):Int)))
 ((((0:Int) <= ((Y64.i y:Nat):Int))/\
 ((((Y64.i y:Nat):Int):Int) < (((List.length (tcellL l)):Nat):Int)))/\
 (∃ x0:T,(((AV.vptr (AV.cells (List.getD (tcellL l) (Int.toNat (↑(Y64.i y):Int)) AV.undef))) = (AV.vptr [(AV.int .i64 (T.k x0)),(AV.int .i64 (T.n x0)),(AV.str (T.s x0)),(AV.slice 4 (tcellL (T.l x0)) Cap.any)]))/\
 (∃ t1:T,(([(AV.agg [(AV.int .i64 (T.k x0)),(AV.int .i64 (T.n x0)),(AV.str (T.s x0)),(AV.slice 4 (tcellL (T.l x0)) Cap.any)])] = [(AV.agg [(AV.int .i64 (T.k t1)),(AV.int .i64 (T.n t1)),(AV.str (T.s t1)),(AV.slice 4 (tcellL (T.l t1)) Cap.any)])])/\
 (((T.bulk t1:Nat) <= 1099511627776)/\
 (bcase (((chkT t1):Int) != 0)
 ((∃ x2:T,((x2 ∈ l)/\
 ((grT x2) = false)))/\
 ((Rf (TV.v (AV.bool false)))/\
 True))
 ((((0:Int) <= ((Y64.i y:Nat):Int))/\
 ((((Y64.i y:Nat):Int):Int) < (((List.length (tcellL l)):Nat):Int)))/\
 (∃ x2:T,(((AV.vptr (AV.cells (List.getD (tcellL l) (Int.toNat (↑(Y64.i y):Int)) AV.undef))) = (AV.vptr [(AV.int .i64 (T.k x2)),(AV.int .i64 (T.n x2)),(AV.str (T.s x2)),(AV.slice 4 (tcellL (T.l x2)) Cap.any)]))/\
 (∃ t3:T,(∃ v4:AV,(∃ acc5:List T,(([(AV.agg [(AV.int .i64 (T.k x2)),(AV.int .i64 (T.n x2)),(AV.str (T.s x2)),(AV.slice 4 (tcellL (T.l x2)) Cap.any)]),AV.nilslice] = [(AV.agg [(AV.int .i64 (T.k t3)),(AV.int .i64 (T.n t3)),(AV.str (T.s t3)),(AV.slice 4 (tcellL (T.l t3)) Cap.any)]),(v4)])/\
 ((((SizeOf.sizeOf t3:Nat) < (N))/\
 (((((List.length (acc5)) + (List.length (nodesT t3))):Nat) <= 100000)/\
 ((((v4) = AV.nilslice)/\
 (∀ x6:T,((x6 ∈ acc5) -> (((T.k x6):Int) ≠ 1)))) \/ (∃ id6:Nat,(∃ n7:Nat,(∃ l8:List Int,(∃ g9:Bool,(((v4) = (AV.rslice (id6) 0 (n7)))/\
 (((0:Nat) < (n7))/\
 ((((n7):Nat) <= (List.length (acc5)))/\
 ((((List.length (l8)):Nat) = (n7))/\
 (((State.objs (State.untok (y.1)) (id6)) = (AObj.cells (intsZ l8) 3 1 (g9)))/\
 (∃ x10:T,((x10 ∈ acc5)/\
 (((T.k x10):Int) = 1)))))))))))))))/\
 (∀ v'6:AV,(∀ σ'7:State,(((((v'6) = AV.nilslice)/\
 (∀ x8:T,((x8 ∈ acc5 ++ nodesT t3) -> (((T.k x8):Int) ≠ 1)))) \/ (∃ id8:Nat,(∃ n9:Nat,(∃ l10:List Int,(∃ g11:Bool,(((v'6) = (AV.rslice (id8) 0 (n9)))/\
 (((0:Nat) < (n9))/\
 ((((n9):Nat) <= (List.length ((acc5) ++ (nodesT t3))))/\
 ((((List.length (l10)):Nat) = (n9))/\
 (((State.objs σ'7 (id8)) = (AObj.cells (intsZ l10) 3 1 (g11)))/\
 (∃ x12:T,((x12 ∈ acc5 ++ nodesT t3)/\
 (((T.k x12):Int) = 1))))))))))))) -> ((((v'6) = AV.nilslice)/\
 (∃ x'8:Y64,(((I (x'8))/\
 (((LS.μ (ls64 l I) x'8):Nat) < (LS.μ (ls64 l I) y)))/\
 ((Rf (TV.v (AV.slice 4 (tcellL l) Cap.any)))/\
 (((TV.v (AV.int .i64 (IntKind.wrap .i64 (((Y64.i y:Nat):Int) + 1)))) = (TV.v (AV.int .i64 ((Y64.i x'8:Nat):Int))))/\
 (State.Le ((ls64 l I).3 x'8) σ'7)))))) \/ (∃ x8:RS,(((v'6) = (AV.rslice (RS.id x8) 0 (RS.n x8)))/\
 (bcase (decide ((((RS.n x8:Nat):Int):Int) > 0))
 ((∃ x9:T,((x9 ∈ l)/\
 ((grT x9) = false)))/\
 ((Rf (TV.v (AV.bool false)))/\
 True))
 (∃ x'9:Y64,(((I (x'9))/\
 (((LS.μ (ls64 l I) x'9):Nat) < (LS.μ (ls64 l I) y)))/\
 ((Rf (TV.v (AV.slice 4 (tcellL l) Cap.any)))/\
 (((TV.v (AV.int .i64 (IntKind.wrap .i64 (((Y64.i y:Nat):Int) + 1)))) = (TV.v (AV.int .i64 ((Y64.i x'9:Nat):Int))))/\
 (State.Le ((ls64 l I).3 x'9) σ'7)))))))))))))))))))))))))))
 ((((Y64.i y:Nat) < (List.length (l))) -> False)/\
 (State.Le (y.1) (y.1))))):=by kernel_rfl
def T64 (l:List T) (I:Y64 -> Prop):LHand:=fun _ Q a σ => ∃ y:Y64,I y /\ atF a ((ls64 l I).F y) [] (y.σ.Le σ) /\ (((∀ x ∈ l,grT x = true) -> ∀ σ',Q (.exit 0) (frm [] []) σ') /\ ((∃ x ∈ l,grT x = false) -> ∀ σ',Q .ret (frm [(2,.v (.bool false))] []) σ'))
theorem vc64 (B:Nat) (w0:World) (G:Nat -> AV) (N:Nat) (l:List T) (I:Y64 -> Prop) (Q:AV -> State -> Prop):(bodyX [] (EV B w0 G) (H64 (EV B w0 G) N) (T64 l I) annA N64 64 [slV l] noObj Q) =
 ((∃ y0:Y64,((I (y0))/\
 (((Rf (TV.v (AV.slice 4 (tcellL l) Cap.any)))/\
 (((TV.v (AV.int .i64 0)) = (TV.v (AV.int .i64 ((Y64.i y0:Nat):Int))))/\
 (State.Le (y0.1) (noObj))))/\
 (((∀ x1:T,((x1 ∈ l) -> ((grT x1) = true))) -> (∀ σ'1:State,(Q (AV.bool true) σ'1)))/\
 ((∃ x1:T,((x1 ∈ l)/\
 ((grT x1) = false))) -> (∀ σ'1:State,(Q (AV.bool false) σ'1)))))))):=by kernel_rfl
def C64:Contract:=fun args σ K => ∃ l:List T,args = [slV l] /\ (l.length <= 1000000 /\ ∀ x ∈ l,x.bulk <= 1099511627776) /\ K (.bool (l.all grT)) σ.untok
/- lists -/
def H63 (E:Env):Hand:=hnd E annA noHints [(64,C64)]
def ls63 (ls:List (List T)):LS Nat where
 F i:=[(0,.v (.slice 1 (lsV ls) .any)),(3,.v (.int .i64 (i:Int)))]
 FL _:=[]
 S _:=noObj
 I i:=i <= ls.length /\ ∀ l ∈ ls.take i,l.all grT = true
 μ i:=ls.length - i
 Ex i e a σ:=match e with
  | .exit 0 => ¬ (i < ls.length) /\ atF a [] [] True
  | .ret => (∃ l ∈ ls,l.all grT = false) /\ atF a [(2,.v (.int .i64 3))] [] True
  | _ => False
def N63:FnHint:=hAt [(6,2,hSl)]
theorem fnParts_63:fnParts Tryz.prog [] 63 = [.loop (bodyOf (fnPart Tryz.prog [] 63 0))]:=by kernel_rfl
theorem vc63l (B:Nat) (w0:World) (G:Nat -> AV) (ls:List (List T)) (i:Nat):(wpX [] (EV B w0 G) (H63 (EV B w0 G)) (fun _ _ _ _ => False) (annA 63) N63 (bodyOf (fnPart Tryz.prog [] 63 0)) ((ls63 ls).post i) (frm [(0,.v (.slice 1 (lsV ls) .any)),(3,.v (.int .i64 (i:Int)))] []) noObj) =
 ((bcase (decide ((((i:Nat):Int):Int) < (((List.length (lsV ls)):Nat):Int)))
 ((((0:Int) <= ((i:Nat):Int))/\
 ((((i:Nat):Int):Int) < (((List.length (lsV ls)):Nat):Int)))/\
 (∃ x0:List T,(((AV.vptr (AV.cells (List.getD (lsV ls) (Int.toNat (↑i:Int)) AV.undef))) = (AV.vptr [(AV.slice 4 (tcellL x0) Cap.any)]))/\
 (∃ l1:List T,(([(AV.slice 4 (tcellL x0) Cap.any)] = [(AV.slice 4 (tcellL l1) Cap.any)])/\
 (((((List.length (l1)):Nat) <= 1000000)/\
 (∀ x2:T,((x2 ∈ l1) -> ((T.bulk x2:Nat) <= 1099511627776))))/\
 (bcase (!(List.all l1 grT))
 ((∃ l2:List T,((l2 ∈ ls)/\
 ((List.all l2 grT) = false)))/\
 ((Rf (TV.v (AV.int .i64 3)))/\
 True))
 (∃ x'2:Nat,((((((x'2):Nat) <= (List.length (ls)))/\
 (∀ l3:List T,((l3 ∈ List.take x'2 ls) -> ((List.all l3 grT) = true))))/\
 (((LS.μ (ls63 ls) x'2):Nat) < (LS.μ (ls63 ls) i)))/\
 ((Rf (TV.v (AV.slice 1 (lsV ls) Cap.any)))/\
 (((TV.v (AV.int .i64 (IntKind.wrap .i64 (((i:Nat):Int) + 1)))) = (TV.v (AV.int .i64 (((x'2):Nat):Int))))/\
 (State.Le ((ls63 ls).3 x'2) (State.untok (noObj))))))))))))))
 (((((i):Nat) < (List.length (ls))) -> False)/\
 True))):=by kernel_rfl
def T63 (ls:List (List T)):LHand:=fun _ Q a σ => atF a ((ls63 ls).F 0) [] (noObj.Le σ) /\ (((∀ l ∈ ls,l.all grT = true) -> ∀ σ',Q (.exit 0) (frm [] []) σ') /\ ((∃ l ∈ ls,l.all grT = false) -> ∀ σ',Q .ret (frm [(2,.v (.int .i64 3))] []) σ'))
theorem vc63 (B:Nat) (w0:World) (G:Nat -> AV) (ls:List (List T)) (Q:AV -> State -> Prop):(bodyX [] (EV B w0 G) (H63 (EV B w0 G)) (T63 ls) annA N63 63 [.slice 1 (lsV ls) .any] noObj Q) =
 ((bcase (decide (((((List.length (lsV ls)):Nat):Int):Int) > 8))
 (Q (AV.int .i64 1) (noObj))
 (((Rf (TV.v (AV.slice 1 (lsV ls) Cap.any)))/\
 ((Rf (TV.v (AV.int .i64 0)))/\
 (State.Le (noObj) (noObj))))/\
 (((∀ l0:List T,((l0 ∈ ls) -> ((List.all l0 grT) = true))) -> (∀ σ'0:State,(Q (AV.int .i64 0) σ'0)))/\
 ((∃ l0:List T,((l0 ∈ ls)/\
 ((List.all l0 grT) = false))) -> (∀ σ'0:State,(Q (AV.int .i64 3) σ'0))))))):=by kernel_rfl
def listsE (ls:List (List T)):Int:=if 8 < ls.length then 1 else if ls.all (fun l => l.all grT) = true then 0 else 3
def C63:Contract:=fun args σ K => ∃ ls:List (List T),args = [.slice 1 (lsV ls) .any] /\ (ls.length <= 1000 /\ ∀ l ∈ ls,l.length <= 1000000 /\ ∀ x ∈ l,x.bulk <= 1099511627776) /\ K (.int .i64 (listsE ls)) σ.untok
end Go.V
/- The reference's ground and lists. -/
set_option linter.unusedSimpArgs false
set_option linter.unusedSectionVars false
namespace Go.V
open Go Go.Proofs

theorem grT_of {x:T} (h:chkT x = 0) (hv:∀ y ∈ nodesT x,y.k ≠ 1):grT x = true:=by
 unfold grT
 rw [h]
 simp only [decide_true,Bool.true_and,List.all_eq_true,decide_eq_true_eq]
 exact hv
theorem grT_not {x:T} (hv:∃ y ∈ nodesT x,y.k = 1):grT x = false:=by
 cases hgt:grT x with
 | false => rfl
 | true =>
  unfold grT at hgt
  simp only [Bool.and_eq_true,List.all_eq_true,decide_eq_true_eq] at hgt
  obtain ⟨y,hy,hy1⟩:=hv
  exact absurd hy1 (hgt.2 y hy)

section
variable {B:Nat} {w0:World} {G:Nat -> AV}
variable (hG:∀ i,NoId (G i))
include hG

theorem c64_ok:ContractOk (EV B w0 G) 64 C64:=by
 rintro args σ Q ⟨l,rfl,⟨hlen,hbk⟩,hQ⟩
 refine pure_of hG (fun y hy => ?_) (.bool _) (fun Q hQ => ?_) hQ
 ·simp only [List.mem_cons,List.not_mem_nil,or_false] at hy
  subst hy; exact slV_noId l
 have hH:HOk1 (EV B w0 G) (H64 (EV B w0 G) (SizeOf.sizeOf l + 1)):=hnd_ok (EV_mixed B w0 G) (contracts_cons (c32_ok hG) (contracts_cons (c128_ok _) contracts_nil))
 let I:Y64 -> Prop:=fun y => y.i <= l.length /\ ∀ x ∈ l.take y.i,grT x = true
 refine bodyX_ok (cuts:=[]) (EV_mixed B w0 G) hH (fun lp hl _ Q a' σ kk => ?_) ((vc64 B w0 G (SizeOf.sizeOf l + 1) l I Q).mpr ⟨⟨noObj,0⟩,⟨Nat.zero_le _,fun x hx => by simp at hx⟩,⟨rfl,rfl,.refl _⟩,fun h σ' => ?_,fun h σ' => ?_⟩)
 ·change lp ∈ fnParts Tryz.prog [] 64 at hl
  rw [fnParts_64] at hl
  simp only [List.mem_cons,List.not_mem_nil,or_false] at hl
  subst hl
  obtain ⟨y0,hI0,hat,hR1,hR2⟩:=kk
  refine awp_loopS (ls64 l I) (x0:=y0) (fun y hI => ?_) (fun y hI e a' σ hne kk => ?_) hI0 hat
  ·obtain ⟨hi,hg⟩:I y:=hI
   show AWp _ _ _ _ _ (frm [(0,.v (slV l)),(3,.v (.int .i64 (y.i:Int)))] []) y.σ
   refine wpX_ok (cuts:=[]) hH (EV_mixed B w0 G) (L:=fun _ _ _ _ => False) _ _ _ _ (fun p hp hc Q a σ k => k.elim) (by kernel_rfl) ((vc64l B w0 G (SizeOf.sizeOf l + 1) l I y).mpr (bcase_of (fun h => ?_) (fun h => ⟨fun h2 => ?_,.refl _⟩)))
   ·have h:=of_decide_eq_true h
    have hk:y.i < l.length:=by rw [tcellL_length] at h; omega
    have w1:IntKind.wrap .i64 ((y.i:Int) + 1) = ((y.i + 1:Nat):Int):=by rw [wr_small (by omega) (by omega)]; omega
    have hm:=List.getElem_mem hk
    have hcell:=tcellL_get hk
    have hsz:=List.sizeOf_lt_of_mem hm
    have nx:grT l[y.i] = true -> ∀ σ':State,I ⟨σ',y.i + 1⟩:=fun hgr σ' => ⟨hk,fun x hx => by
     have hx:x ∈ l.take (y.i + 1):=hx
     rw [List.take_succ_eq_append_getElem hk] at hx
     rcases List.mem_append.1 hx with hx | hx
     ·exact hg x hx
     ·obtain rfl:x = l[y.i]:=by simpa using hx
      exact hgr⟩
    have hμ:l.length - (y.i + 1) < l.length - y.i:=by omega
    refine ⟨⟨by omega,h⟩,l[y.i],by rw [Int.toNat_natCast]; exact hcell,l[y.i],rfl,hbk _ hm,bcase_of (fun hc => ⟨⟨_,hm,grT_chk (by simpa using hc)⟩,rfl,trivial⟩) (fun hc => ?_)⟩
    have hc:chkT l[y.i] = 0:=by simpa using hc
    have hs:=chk_size hc
    refine ⟨⟨by omega,h⟩,l[y.i],by rw [Int.toNat_natCast]; exact hcell,l[y.i],.nilslice,[],rfl,⟨by omega,by rw [nodesT_size]; simp; omega,.inl ⟨rfl,fun x hx => by cases hx⟩⟩,fun v' σ' hO => ?_⟩
    rcases hO with ⟨rfl,hv⟩ | ⟨id,n,il,g,rfl,h1,h2,h3,h4,hx⟩
    ·exact .inl ⟨rfl,⟨σ',y.i + 1⟩,⟨nx (grT_of hc (by simpa using hv)) σ',hμ⟩,rfl,by rw [w1],.refl _⟩
    ·refine .inr ⟨⟨id,n⟩,rfl,bcase_of (fun _ => ⟨⟨_,hm,grT_not (by simpa using hx)⟩,rfl,trivial⟩) (fun hn => ?_)⟩
     have hn:=of_decide_eq_false hn
     exact absurd (show (n:Int) > 0 by omega) hn
   ·have h:=of_decide_eq_false h
    rw [tcellL_length] at h; omega
  ·obtain ⟨hi,hg⟩:I y:=hI
   cases e with
   | exit j =>
    match j,kk with
    | 0,kk =>
     have hk:¬ y.i < l.length:=kk.1
     rw [show y.i = l.length by omega,List.take_length] at hg
     exact ⟨_,σ,(atF_ok kk.2).1,.refl _,hR1 hg σ⟩
   | ret => exact ⟨_,σ,(atF_ok kk.2).1,.refl _,hR2 kk.1 σ⟩
   | normal => exact absurd rfl hne
   | _ => exact kk.elim
 ·rw [List.all_eq_true.2 h] at hQ; exact hQ σ'
 ·obtain ⟨x,hx,hx1⟩:=h
  have e:l.all grT = false:=by
   cases e:l.all grT with
   | false => rfl
   | true => rw [List.all_eq_true.1 e x hx] at hx1; cases hx1
  rw [e] at hQ; exact hQ σ'
end
end Go.V
/- The reference's lists. -/
namespace Go.V
open Go Go.Proofs

section
variable {B:Nat} {w0:World} {G:Nat -> AV}
variable (hG:∀ i,NoId (G i))
include hG

theorem c63_ok:ContractOk (EV B w0 G) 63 C63:=by
 rintro args σ Q ⟨ls,rfl,⟨hb8,hbk⟩,hQ⟩
 refine pure_of hG (fun y hy => ?_) (.int _ _) (fun Q hQ => ?_) hQ
 ·simp only [List.mem_cons,List.not_mem_nil,or_false] at hy
  subst hy; exact lsV_noId ls
 have hH:HOk1 (EV B w0 G) (H63 (EV B w0 G)):=hnd_ok (EV_mixed B w0 G) (contracts_cons (c64_ok hG) contracts_nil)
 refine bodyX_ok (cuts:=[]) (EV_mixed B w0 G) hH (fun lp hl _ Q a' σ kk => ?_) ((vc63 B w0 G ls Q).mpr (bcase_of (fun h => ?_) (fun h => ⟨⟨rfl,rfl,.refl _⟩,fun hg σ' => ?_,fun hg σ' => ?_⟩)))
 ·change lp ∈ fnParts Tryz.prog [] 63 at hl
  rw [fnParts_63] at hl
  simp only [List.mem_cons,List.not_mem_nil,or_false] at hl
  subst hl
  obtain ⟨hat,hR1,hR2⟩:=kk
  refine awp_loopS (ls63 ls) (x0:=0) (fun i hI => ?_) (fun i hI e a' σ hne kk => ?_) ⟨Nat.zero_le _,fun l hl => by simp at hl⟩ hat
  ·obtain ⟨hi,hg⟩:i <= ls.length /\ ∀ l ∈ ls.take i,l.all grT = true:=hI
   show AWp _ _ _ _ _ (frm [(0,.v (.slice 1 (lsV ls) .any)),(3,.v (.int .i64 (i:Int)))] []) noObj
   refine wpX_ok (cuts:=[]) hH (EV_mixed B w0 G) (L:=fun _ _ _ _ => False) _ _ _ _ (fun p hp hc Q a σ k => k.elim) (by kernel_rfl) ((vc63l B w0 G ls i).mpr (bcase_of (fun h => ?_) (fun h => ⟨fun h2 => ?_,trivial⟩)))
   ·have h:=of_decide_eq_true h
    have hk:i < ls.length:=by rw [lsV_len] at h; omega
    have hm:=List.getElem_mem hk
    refine ⟨⟨by omega,h⟩,ls[i],by rw [Int.toNat_natCast,lsV_get hk]; rfl,ls[i],rfl,hbk _ hm,bcase_of (fun hc => ⟨⟨_,hm,by simpa using hc⟩,rfl,trivial⟩) (fun hc => ⟨i + 1,⟨⟨hk,fun l hl => ?_⟩,?_⟩,rfl,?_,noObj_le⟩)⟩
    ·rw [List.take_succ_eq_append_getElem hk] at hl
     rcases List.mem_append.1 hl with hl | hl
     ·exact hg l hl
     ·obtain rfl:l = ls[i]:=by simpa using hl
      simpa using hc
    ·show ls.length - (i + 1) < ls.length - i
     omega
    ·have w1:IntKind.wrap .i64 ((i:Int) + 1) = ((i + 1:Nat):Int):=by
      rw [wr_small (by omega) (by omega)]; omega
     rw [w1]
   ·have h:=of_decide_eq_false h
    rw [lsV_len] at h; omega
  ·obtain ⟨hi,hg⟩:i <= ls.length /\ ∀ l ∈ ls.take i,l.all grT = true:=hI
   cases e with
   | exit j =>
    match j,kk with
    | 0,kk =>
     have hk:¬ i < ls.length:=kk.1
     rw [show i = ls.length by omega,List.take_length] at hg
     exact ⟨_,σ,(atF_ok kk.2).1,.refl _,hR1 hg σ⟩
   | ret => exact ⟨_,σ,(atF_ok kk.2).1,.refl _,hR2 kk.1 σ⟩
   | normal => exact absurd rfl hne
   | _ => exact kk.elim
 ·have h:=of_decide_eq_true h
  rw [lsV_len] at h
  unfold listsE at hQ
  rw [if_pos (by omega)] at hQ; exact hQ _
 ·have h:=of_decide_eq_false h
  rw [lsV_len] at h
  unfold listsE at hQ
  rw [if_neg (by omega),if_pos (List.all_eq_true.2 hg)] at hQ; exact hQ _
 ·have h:=of_decide_eq_false h
  rw [lsV_len] at h
  obtain ⟨l,hl,hl1⟩:=hg
  unfold listsE at hQ
  rw [if_neg (by omega),if_neg (fun e => by rw [List.all_eq_true.1 e l hl] at hl1; cases hl1)] at hQ; exact hQ _
end
end Go.V
