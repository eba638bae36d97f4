import Derived.Test.YtgnjidopnplbbaaGreatDoorG30
/- Conditions: the reference's Done, Inputs, SameInts, SameItems, IsEvent, Do; the law's same. -/
set_option maxRecDepth 1000000
set_option linter.unusedVariables false
namespace Go.V
open Go Go.Proofs

def intsZ (l:List Int):List AV:=l.map fun i => AV.int .i64 i
def hInt64:Hint:=Hint.as (fun n:Int => .vptr [.int .i64 n])
/- SameInts -/
def ls20 (a b:List Int):LS Nat where
 F i:=[(0,.v (.slice 1 (intsZ a) .any)),(1,.v (.slice 1 (intsZ b) .any)),(5,.v (.int .i64 (i:Int)))]
 FL _:=[]
 S _:=noObj
 I i:=i <= a.length /\ a.take i = b.take i
 μ i:=a.length - i
 Ex i e x σ:=match e with
  | .exit 0 => ¬ (i < a.length)
  | .ret => a ≠ b /\ atF x [(4,.v (.bool false))] [] (noObj.Le σ)
  | _ => False
def N20:FnHint:=hAt [(6,2,hInt64),(6,6,hInt64)]
theorem fnParts_20:fnParts Tryz.prog [] 20 = [.loop (bodyOf (fnPart Tryz.prog [] 20 0))]:=by kernel_rfl
theorem vc20l (B:Nat) (w0:World) (G:Nat -> AV) (a b:List Int) (i:Nat):(wpX [] (EV B w0 G) (H0 (EV B w0 G)) (fun _ _ _ _ => False) (annA 20) N20 (bodyOf (fnPart Tryz.prog [] 20 0)) ((ls20 a b).post i) (frm [(0,.v (.slice 1 (intsZ a) .any)),(1,.v (.slice 1 (intsZ b) .any)),(5,.v (.int .i64 (i:Int)))] []) noObj) =
 ((bcase (decide ((((i:Nat):Int):Int) < (((List.length (intsZ a)):Nat):Int)))
 ((((0:Int) <= ((i:Nat):Int))/\
 ((((i:Nat):Int):Int) < (((List.length (intsZ a)):Nat):Int)))/\
 (∃ x0:Int,(((AV.vptr (AV.cells (List.getD (intsZ a) (Int.toNat (↑i:Int)) AV.undef))) = (AV.vptr [(AV.int .i64 (x0))]))/\
 ((((0:Int) <= ((i:Nat):Int))/\
 ((((i:Nat):Int):Int) < (((List.length (intsZ b)):Nat):Int)))/\
 (∃ x1:Int,(((AV.vptr (AV.cells (List.getD (intsZ b) (Int.toNat (↑i:Int)) AV.undef))) = (AV.vptr [(AV.int .i64 (x1))]))/\
 (bcase (((x0):Int) != (x1))
 (((a) ≠ (b))/\
 ((Rf (TV.v (AV.bool false)))/\
 (State.Le (noObj) (noObj))))
 (∃ x'2:Nat,((((((x'2):Nat) <= (List.length (a)))/\
 ((List.take (x'2) (a)) = (List.take (x'2) (b))))/\
 (((LS.μ (ls20 a b) x'2):Nat) < (LS.μ (ls20 a b) i)))/\
 ((Rf (TV.v (AV.slice 1 (intsZ a) Cap.any)))/\
 ((Rf (TV.v (AV.slice 1 (intsZ b) Cap.any)))/\
 (((TV.v (AV.int .i64 (IntKind.wrap .i64 (((i:Nat):Int) + 1)))) = (TV.v (AV.int .i64 (((x'2):Nat):Int))))/\
 (State.Le ((ls20 a b).3 x'2) (noObj))))))))))))))
 ((((i):Nat) < (List.length (a))) -> False))):=by kernel_rfl
def T20 (a b:List Int):LHand:=fun _ Q x σ => atF x ((ls20 a b).F 0) [] (noObj.Le σ) /\ (a.length = b.length /\ ((a = b -> ∀ σ',Q (.exit 0) (frm [] []) σ') /\ (a ≠ b -> Q .ret (frm [(4,.v (.bool false))] []) noObj)))
theorem vc20 (B:Nat) (w0:World) (G:Nat -> AV) (a b:List Int) (Q:AV -> State -> Prop):(bodyX [] (EV B w0 G) (H0 (EV B w0 G)) (T20 a b) annA N20 20 [.slice 1 (intsZ a) .any,.slice 1 (intsZ b) .any] noObj Q) =
 ((bcase (((((List.length (intsZ a)):Nat):Int):Int) != (((List.length (intsZ b)):Nat):Int))
 (Q (AV.bool false) (noObj))
 (((Rf (TV.v (AV.slice 1 (intsZ a) Cap.any)))/\
 ((Rf (TV.v (AV.slice 1 (intsZ b) Cap.any)))/\
 ((Rf (TV.v (AV.int .i64 0)))/\
 (State.Le (noObj) (noObj)))))/\
 ((((List.length (a)):Nat) = (List.length (b)))/\
 ((((a) = (b)) -> (∀ σ'0:State,(Q (AV.bool true) σ'0)))/\
 (((a) ≠ (b)) -> (Q (AV.bool false) (noObj)))))))):=by kernel_rfl
def C20:Contract:=fun args σ K => ∃ a b:List Int,args = [.slice 1 (intsZ a) .any,.slice 1 (intsZ b) .any] /\ (a.length <= 1000000 /\ K (.bool (decide (a = b))) σ.untok)

/- SameItems -/
/- Done -/
/- Inputs -/
/- IsEvent -/
end Go.V
/- The reference's Done, Inputs, SameInts, SameItems, IsEvent. -/
set_option linter.unusedSimpArgs false
set_option linter.unusedSectionVars false
namespace Go.V
open Go Go.Proofs

theorem intsZ_len (l:List Int):(intsZ l).length = l.length:=List.length_map _
theorem intsZ_get {l:List Int} {i:Nat} (h:i < l.length):AV.vptr (AV.cells ((intsZ l).getD i .undef)) = .vptr [.int .i64 l[i]]:=by
 unfold intsZ; rw [List.getD,List.getElem?_map,List.getElem?_eq_getElem h]; rfl
theorem intsZ_noId (l:List Int):NoId (.slice 1 (intsZ l) .any):=.slice (by simp) fun y hy => by
 unfold intsZ flat at hy
 rw [List.mem_flatMap] at hy
 obtain ⟨x,hx,hy⟩:=hy
 obtain ⟨z,_,rfl⟩:=List.mem_map.1 hx
 simp only [AV.cells,List.mem_cons,List.not_mem_nil,or_false] at hy
 subst hy; exact .int _ _
theorem intsV_Z (l:List Nat):intsV l = intsZ (l.map fun n:Nat => (n:Int)):=by
 unfold intsV intsZ; rw [List.map_map]; rfl
theorem noObj_le:noObj.Le noObj.untok:=⟨rfl,fun id => .inr rfl⟩
section
variable {B:Nat} {w0:World} {G:Nat -> AV}
theorem c20_ok (hG:∀ i,NoId (G i)):ContractOk (EV B w0 G) 20 C20:=by
 rintro args σ Q ⟨a,b,rfl,ha,hQ⟩
 refine pure_of hG (fun y hy => ?_) (.bool _) (fun Q hQ => ?_) hQ
 ·simp only [List.mem_cons,List.not_mem_nil,or_false] at hy
  rcases hy with rfl | rfl <;> exact intsZ_noId _
 refine bodyX_ok (cuts:=[]) (EV_mixed B w0 G) H0_ok (fun lp hl _ Q a' σ kk => ?_) ((vc20 B w0 G a b Q).mpr (bcase_of (fun h => ?_) (fun h => ⟨⟨rfl,rfl,rfl,.refl _⟩,?_,fun h => ?_,fun h => ?_⟩)))
 ·change lp ∈ fnParts Tryz.prog [] 20 at hl
  rw [fnParts_20] at hl
  simp only [List.mem_cons,List.not_mem_nil,or_false] at hl
  subst hl
  obtain ⟨hat,hlen,h1,h2⟩:=kk
  refine awp_loopS (ls20 a b) (x0:=0) (fun i hI => ?_) (fun i hI e a' σ hne kk => ?_) ⟨Nat.zero_le _,rfl⟩ hat
  ·obtain ⟨hi,hpre⟩:i <= a.length /\ a.take i = b.take i:=hI
   show AWp _ _ _ _ _ (frm [(0,.v (.slice 1 (intsZ a) .any)),(1,.v (.slice 1 (intsZ b) .any)),(5,.v (.int .i64 (i:Int)))] []) noObj
   refine wpX_ok H0_ok (EV_mixed B w0 G) (L:=fun _ _ _ _ => False) _ _ _ _ (fun p hp hc Q a σ k => k.elim) (by kernel_rfl) ((vc20l B w0 G a b i).mpr (bcase_of (fun h => ?_) (fun h h2 => by have h:=of_decide_eq_false h; rw [intsZ_len] at h; omega)))
   have h:=of_decide_eq_true h
   have hk:i < a.length:=by rw [intsZ_len] at h; omega
   have hkb:i < b.length:=by omega
   have w1:IntKind.wrap .i64 ((i:Int) + 1) = ((i + 1:Nat):Int):=by rw [wr_small (by omega) (by omega)]; omega
   refine ⟨⟨by omega,h⟩,a[i],by rw [Int.toNat_natCast,intsZ_get hk],⟨by omega,by rw [intsZ_len]; omega⟩,b[i],by rw [Int.toNat_natCast,intsZ_get hkb],bcase_of (fun hne => ⟨fun e => ?_,rfl,.refl _⟩) (fun heq => ?_)⟩
   ·subst e; simp at hne
   ·have heq:a[i] = b[i]:=by simpa using heq
    refine ⟨i + 1,⟨⟨hk,?_⟩,by show a.length - (i + 1) < a.length - i; omega⟩,rfl,rfl,by rw [w1],.refl _⟩
    rw [List.take_add_one,List.take_add_one,hpre,List.getElem?_eq_getElem hk,List.getElem?_eq_getElem hkb,heq]
  ·obtain ⟨hi,hpre⟩:i <= a.length /\ a.take i = b.take i:=hI
   cases e with
   | exit j =>
    match j,kk with
    | 0,kk =>
     have kk:¬ i < a.length:=kk
     have e:a = b:=by
      rw [show i = a.length by omega,List.take_length,hlen,List.take_length] at hpre; exact hpre
     exact ⟨_,σ,(atF_ok (F:=[]) (FL:=[]) (R:=True) ⟨⟩).1,.refl _,h1 e σ⟩
   | ret => exact ⟨_,_,(atF_ok kk.2).1,(atF_ok kk.2).2,h2 kk.1⟩
   | normal => exact absurd rfl hne
   | _ => exact kk.elim
 ·have h:(a.length:Int) ≠ b.length:=by rw [intsZ_len,intsZ_len] at h; simpa using h
  rw [decide_eq_false (fun e:a = b => h (by rw [e]))] at hQ
  exact hQ _
 ·rw [intsZ_len,intsZ_len] at h
  have:(a.length:Int) = b.length:=by simpa using h
  omega
 ·rw [decide_eq_true h] at hQ
  exact fun σ' => hQ σ'
 ·rw [decide_eq_false h] at hQ
  exact hQ _

end
end Go.V
