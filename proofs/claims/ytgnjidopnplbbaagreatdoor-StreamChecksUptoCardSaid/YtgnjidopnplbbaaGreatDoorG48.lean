import Derived.Test.YtgnjidopnplbbaaGreatDoorG47
import Derived.Test.YtgnjidopnplbbaaGreatDoorG31
import Derived.Test.YtgnjidopnplbbaaGreatDoorG15
/- Conditions: the law StreamChecks. -/
set_option maxRecDepth 1000000
set_option linter.unusedVariables false
namespace Go.V
open Go Go.Proofs

def C20o:Contract:=fun args σ K => ∃ a:List Nat,args = [.slice 1 (intsV a) .any,.slice 1 (intsV a) .any] /\ a.length <= 1000000 /\ K (.bool true) σ.untok
def H3c (E:Env):Hand:=hnd E annA noHints [(16,C16),(17,C17),(18,C18),(19,C19),(20,C20o)]
def cuts3:List Nat:=[5]
def F3c (ls:List (List T)) (out:List T):List (Nat × TV):=[(0,.v (.slice 1 (lsV ls) .any)),(1,.v (slV out))]
def T3c (ls:List (List T)) (out:List T):LHand:=fun _ Q a σ => atF a (F3c ls out) [] (noObj.Le σ) /\ (sumL ls <= 1000 /\ ls.length <= 20 /\ out.length <= 2000) /\ ∀ σ':State,Q .ret (frm [(4,.v (.bool true))] []) σ'
def P3c:Post:=fun e a σ => match e with
 | .ret => atF a [(4,.v (.bool true))] [] True
 | _ => False
def part3 (P:Program):Code:=fnPart P cuts3 3 0
theorem fnParts_3:fnParts Tryz.prog cuts3 3 = [part3 Tryz.prog]:=by kernel_rfl
theorem vc3 (B:Nat) (w0:World) (G:Nat -> AV) (ls:List (List T)) (out:List T) (Q:AV -> State -> Prop):(bodyX cuts3 (EV B w0 G) (H3c (EV B w0 G)) (handL [(5,T3c ls out)]) annA noHint 3 [.slice 1 (lsV ls) .any,slV out] noObj Q) =
 (((([]:List AV) = [])/\
 (∃ ls0:List (List T),(([(AV.slice 1 (lsV ls) Cap.any)] = [(AV.slice 1 (lsV ls0) Cap.any)])/\
 ((((sumL ls0:Nat) <= 1099511627776)/\
 (((List.length (ls0)):Nat) <= 1099511627776))/\
 (bcase (!(smallB ls0))
 (Q (AV.bool true) (State.untok (State.untok (noObj))))
 (bcase (decide (((((List.length (tcellL out)):Nat):Int):Int) > 2000))
 (Q (AV.bool true) (State.untok (State.untok (noObj))))
 (((Rf (TV.v (AV.slice 1 (lsV ls) Cap.any)))/\
 ((Rf (TV.v (AV.slice 4 (tcellL out) Cap.any)))/\
 (State.Le (noObj) (State.untok (State.untok (noObj))))))/\
 ((((sumL ls:Nat) <= 1000)/\
 ((((List.length (ls)):Nat) <= 20)/\
 (((List.length (out)):Nat) <= 2000)))/\
 (∀ σ'1:State,(Q (AV.bool true) σ'1))))))))))):=by kernel_rfl
theorem vc3t (B:Nat) (w0:World) (G:Nat -> AV) (ls:List (List T)) (out:List T):(wpX cuts3 (EV B w0 G) (H3c (EV B w0 G)) (fun _ _ _ _ => False) (annA 3) noHint (part3 Tryz.prog) P3c (frm (F3c ls out) []) noObj) =
 ((∃ ls0:List (List T),(∃ out1:List T,(([(AV.slice 1 (lsV ls) Cap.any),(AV.slice 4 (tcellL out) Cap.any)] = [(AV.slice 1 (lsV ls0) Cap.any),(AV.slice 4 (tcellL out1) Cap.any)])/\
 (((((List.length (ls0)):Nat) <= 1000)/\
 (((sumL ls0:Nat) <= 1000000)/\
 (((List.length (out1)):Nat) <= 1000000)))/\
 (∃ ls2:List (List T),(∃ out3:List T,(([(AV.slice 1 (lsV ls) Cap.any),(AV.slice 4 (tcellL out) Cap.any)] = [(AV.slice 1 (lsV ls2) Cap.any),(AV.slice 4 (tcellL out3) Cap.any)])/\
 (((((List.length (ls2)):Nat) <= 1000)/\
 (((sumL ls2:Nat) <= 1000000)/\
 ((((List.length (out3)):Nat) <= 1000000)/\
 ((∀ l4:List T,((l4 ∈ ls2) -> (∀ x5:T,((x5 ∈ l4) -> ((T.bulk x5:Nat) <= 1099511627776)))))/\
 (∀ x4:T,((x4 ∈ out3) -> ((T.bulk x4:Nat) <= 1099511627776)))))))/\
 (∃ a4:List Nat,(([(AV.slice 1 (intsV (Prod.fst (checkS ls0 out1))) Cap.any),(AV.slice 1 (intsV (Prod.fst (checkS ls2 out3))) Cap.any)] = [(AV.slice 1 (intsV a4) Cap.any),(AV.slice 1 (intsV a4) Cap.any)])/\
 ((((List.length (a4)):Nat) <= 1000000)/\
 (bcase (((Prod.fst (Prod.snd (checkS ls0 out1))):Bool) == (Prod.fst (Prod.snd (checkS ls2 out3))))
 (((TV.v (AV.bool (((Prod.snd (Prod.snd (checkS ls0 out1))):Int) == (Prod.snd (Prod.snd (checkS ls2 out3)))))) = (TV.v (AV.bool true)))/\
 True)
 (((TV.v (AV.bool false)) = (TV.v (AV.bool true)))/\
 True)))))))))))))):=by kernel_rfl
end Go.V
/- The law StreamChecks. -/
set_option linter.unusedSimpArgs false
set_option linter.unusedSectionVars false
namespace Go.V
open Go Go.Proofs

theorem mgF_lenC {ls:List (List T)} {out:List T}:∀ (n:Nat) (p o:List Nat),mgF ls out n p = some o -> o.length = n
 | 0,p,o,h => by rw [mgF] at h; cases h; rfl
 | n + 1,p,o,h => by
  rw [mgF_succ] at h
  have:∀ l:List Nat,tryI (cand ls out p n) l = some o -> o.length = n + 1:=by
   intro l
   induction l with
   | nil => intro h; cases h
   | cons i r ih =>
    intro h
    unfold tryI at h
    split at h
    ·rename_i o' ho
     cases h
     unfold cand at ho
     split at ho
     ·cases hm:mgF ls out n (p.set i (p.getD i 0 + 1)) with
      | none => rw [hm] at ho; cases ho
      | some o2 =>
       rw [hm] at ho
       cases ho
       rw [List.length_cons,mgF_lenC n _ o2 hm]
     ·cases ho
    ·exact ih h
  exact this _ h
theorem checkS_lenC (ls:List (List T)) (out:List T):(checkS ls out).1.length <= out.length:=by
 unfold checkS
 split
 ·exact Nat.zero_le _
 ·split
  ·exact Nat.zero_le _
  ·split
   ·exact Nat.zero_le _
   ·split
    ·exact Nat.zero_le _
    ·split
     ·rename_i o h
      rw [mgF_lenC _ _ _ h]; exact Nat.le_refl _
     ·exact Nat.zero_le _

section
variable {B:Nat} {w0:World} {G:Nat -> AV}
theorem c20o_ok (hG:∀ i,NoId (G i)):ContractOk (EV B w0 G) 20 C20o:=by
 rintro args σ Q ⟨a,rfl,hb,hQ⟩
 refine c20_ok hG _ σ Q ⟨a.map fun n:Nat => (n:Int),a.map fun n:Nat => (n:Int),by rw [intsV_Z],by rw [List.length_map]; exact hb,?_⟩
 rw [decide_eq_true rfl]; exact hQ
theorem H3c_ok:HOk1 (EV B w0 G1) (H3c (EV B w0 G1)):=hnd_ok (EV_mixed B w0 G1) (contracts_cons c16_ok (contracts_cons (c17_ok G1_noId) (contracts_cons (c18_ok G1_noId) (contracts_cons (c19_ok G1_noId) (contracts_cons (c20o_ok G1_noId) contracts_nil)))))

theorem checks_ok (ls:List (List T)) (out:List T) (hb1:sumL ls <= 1099511627776) (hb2:ls.length <= 1099511627776) (hk1:∀ l ∈ ls,∀ x ∈ l,x.bulk <= 1099511627776) (hk2:∀ x ∈ out,x.bulk <= 1099511627776) :
  ACalls (EV B w0 G1) 3 [.slice 1 (lsV ls) .any,slV out] noObj (fun v σ' => v = .bool true):=by
 refine bodyX_ok (cuts:=cuts3) (A:=annA) (EV_mixed B w0 G1) H3c_ok (fun lp hl _ Q a' σ kk => ?_) ((vc3 B w0 G1 ls out _).mpr ⟨rfl,ls,rfl,⟨hb1,hb2⟩,bcase_of (fun h => rfl) (fun h => bcase_of (fun h2 => rfl) (fun h2 => ⟨⟨rfl,rfl,noObj_le⟩,⟨?_,?_,?_⟩,fun σ' => rfl⟩))⟩)
 ·change lp ∈ fnParts Tryz.prog cuts3 3 at hl
  rw [fnParts_3] at hl
  simp only [List.mem_cons,List.not_mem_nil,or_false] at hl
  subst hl
  refine handL_ok (P:=fun c Q a σ => AWp (EV B w0 G1) none (fnTmps Tryz.prog 3) c Q a σ) kk (fun _ k => ?_) (fun k => k.elim)
  obtain ⟨hat,⟨h1,h2,h3⟩,hR⟩:=k
  refine .post_wk (.pre_wk (atF_ok hat).1 (atF_ok hat).2 ((wpX_ok (cuts:=cuts3) (L:=fun _ _ _ _ => False) H3c_ok (EV_mixed B w0 G1) _ _ _ _ (fun _ _ _ Q a σ k => k.elim) (by kernel_rfl) ((vc3t B w0 G1 ls out).mpr ?_)).mono fun e a σ k => ?_))
  ·have hcl:=checkS_lenC ls out
   refine ⟨ls,out,rfl,⟨by omega,by omega,by omega⟩,ls,out,rfl,⟨by omega,by omega,by omega,hk1,hk2⟩,_,rfl,by omega,bcase_of (fun _ => ⟨?_,trivial⟩) (fun h => by simp at h)⟩
   rw [beq_self_eq_true]
  ·cases e with
   | ret => exact ⟨_,_,(atF_ok (F:=[(4,.v (.bool true))]) (FL:=[]) (R:=True) k).1,.refl _,hR σ⟩
   | _ => exact k.elim
 all_goals
  have h:smallB ls = true:=by simpa using h
  unfold smallB at h
  rw [Bool.and_eq_true,decide_eq_true_eq,decide_eq_true_eq] at h
  have h2:=of_decide_eq_false h2
  rw [tcellL_length] at h2
  omega
end
end Go.V
