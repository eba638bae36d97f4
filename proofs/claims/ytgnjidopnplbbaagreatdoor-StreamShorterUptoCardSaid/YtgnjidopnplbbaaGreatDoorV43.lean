import Derived.Test.YtgnjidopnplbbaaGreatDoorV40
import Derived.Test.YtgnjidopnplbbaaGreatDoorV42
import Derived.Test.YtgnjidopnplbbaaGreatDoorV31
/- Conditions: the law StreamShorter. -/
set_option maxRecDepth 1000000
set_option linter.unusedVariables false
namespace Go.V
open Go Go.Proofs

def C18w:Contract:=fun args σ K => ∃ (ls:List (List T)) (out:List T),WkL args [.slice 1 (lsV ls) .any,slV out] /\ (ls.length <= 1000 /\ sumL ls <= 1000000 /\ out.length <= 1000000) /\
 K (.tuple [.slice 1 (intsV (checkS ls out).1) .any,.bool (checkS ls out).2.1,.int .i64 (checkS ls out).2.2]) σ.untok
def C20n:Contract:=fun args σ K => ∃ a:List Nat,args = [.slice 1 (intsV a) .any,.slice 1 (intsV a) .any] /\ a.length <= 1000000 /\ K (.bool true) σ.untok
def H5 (E:Env):Hand:=hnd E annA noHints [(16,C16),(25,C25),(26,C26),(17,C17),(18,C18w),(20,C20n)]
def N5:FnHint:=hAt [(9,4,Hint.s),(15,2,Hint.s),(15,4,Hint.s)]
def annA5 (f:Nat):FnAnn:=match Nat.beq f 5 with
 | true => ⟨fun _ _ => .none,(annA 5).eff⟩
 | false => annA f
def cuts5:List Nat:=[12]
def F5 (ls:List (List T)) (out:List T):List (Nat × TV):=[(5,.v (.slice 1 (lsV ls) .any)),(6,.v (slV out))]
def T5 (ls:List (List T)) (out:List T):LHand:=fun _ Q a σ => atF a (F5 ls out) [] (noObj.Le σ) /\ ∀ σ':State,Q .ret (frm [(2,.v (.bool true))] []) σ'
def P5:Post:=fun e a σ => match e with
 | .ret => atF a [(2,.v (.bool true))] [] True
 | _ => False
def part5 (P:Program):Code:=fnPart P cuts5 5 0
theorem fnParts_5:fnParts Tryz.prog cuts5 5 = [part5 Tryz.prog]:=by kernel_rfl
theorem vc5 (B:Nat) (w0:World) (G:Nat -> AV) (m n:Int) (ls:List (List T)) (out:List T) (Q:AV -> State -> Prop):(bodyX cuts5 (EV B w0 G) (H5 (EV B w0 G)) (handL [(12,T5 ls out)]) annA5 N5 5 [.agg [.int .i64 m,.int .i64 n,.slice 1 (lsV ls) .any,slV out]] noObj Q) =
 (((([]:List AV) = [])/\
 (bcase (decide (((m):Int) ≥ 0))
 (bcase (decide (((m):Int) <= (n)))
 (bcase (decide (((n):Int) <= 8))
 (∃ m0:Nat,(([(AV.int .i64 (m))] = [(AV.int .i64 ((m0:Nat):Int))])/\
 ((((m0):Nat) <= 8)/\
 (∃ m1:Nat,(([(AV.int .i64 (n))] = [(AV.int .i64 ((m1:Nat):Int))])/\
 ((((m1):Nat) <= 8)/\
 (bcase (((((List.length (procsV m0)):Nat):Int):Int) != (IntKind.wrap .i64 ((m) + 1)))
 (Q (AV.bool false) (State.untok (State.untok (State.untok (noObj)))))
 (bcase (((((List.length (procsV m1)):Nat):Int):Int) != (IntKind.wrap .i64 ((n) + 1)))
 (Q (AV.bool false) (State.untok (State.untok (State.untok (noObj)))))
 ((((0:Int) <= (IntKind.wrap .i64 ((m) + 1)))/\
 (((IntKind.wrap .i64 ((m) + 1)):Int) <= (((List.length (procsV m1)):Nat):Int)))/\
 (∃ m2:Nat,(([(AV.agg [(AV.slice 3 (procsV m0) Cap.nn)]),(AV.agg [(AV.slice 3 (List.drop 0 (List.take (Int.toNat (IntKind.wrap .i64 ((m) + 1))) (procsV m1))) Cap.nn)])] = [(AV.agg [(AV.slice 3 (procsV m2) Cap.nn)]),(AV.agg [(AV.slice 3 (procsV m2) Cap.nn)])])/\
 ((((m2):Nat) <= 8)/\
 (((Rf (TV.v (AV.slice 1 (lsV ls) Cap.any)))/\
 ((Rf (TV.v (AV.slice 4 (tcellL out) Cap.any)))/\
 (State.Le (noObj) (State.untok (State.untok (State.untok (State.untok (noObj))))))))/\
 (∀ σ'3:State,(Q (AV.bool true) σ'3)))))))))))))))
 (((Rf (TV.v (AV.slice 1 (lsV ls) Cap.any)))/\
 ((Rf (TV.v (AV.slice 4 (tcellL out) Cap.any)))/\
 (State.Le (noObj) (State.untok (noObj)))))/\
 (∀ σ'0:State,(Q (AV.bool true) σ'0))))
 (((Rf (TV.v (AV.slice 1 (lsV ls) Cap.any)))/\
 ((Rf (TV.v (AV.slice 4 (tcellL out) Cap.any)))/\
 (State.Le (noObj) (State.untok (noObj)))))/\
 (∀ σ'0:State,(Q (AV.bool true) σ'0))))
 (((Rf (TV.v (AV.slice 1 (lsV ls) Cap.any)))/\
 ((Rf (TV.v (AV.slice 4 (tcellL out) Cap.any)))/\
 (State.Le (noObj) (State.untok (noObj)))))/\
 (∀ σ'0:State,(Q (AV.bool true) σ'0)))))):=by kernel_rfl
theorem vc5t (B:Nat) (w0:World) (G:Nat -> AV) (ls:List (List T)) (out:List T):(wpX cuts5 (EV B w0 G) (H5 (EV B w0 G)) (fun _ _ _ _ => False) (annA5 5) N5 (part5 Tryz.prog) P5 (frm (F5 ls out) []) noObj) =
 ((bcase (decide (((((List.length (lsV ls)):Nat):Int):Int) ≥ 8))
 ((Rf (TV.v (AV.bool true)))/\
 True)
 (∃ ls0:List (List T),(([(AV.slice 1 (lsV ls) Cap.any)] = [(AV.slice 1 (lsV ls0) Cap.any)])/\
 ((((sumL ls0:Nat) <= 1099511627776)/\
 (((List.length (ls0)):Nat) <= 1099511627776))/\
 (bcase (!(smallB ls0))
 ((Rf (TV.v (AV.bool true)))/\
 True)
 (bcase (decide (((((List.length (tcellL out)):Nat):Int):Int) > 2000))
 ((Rf (TV.v (AV.bool true)))/\
 True)
 (∃ ls1:List (List T),(∃ out2:List T,((WkL [(AV.slice 1 (lsV ls) Cap.any),(AV.slice 4 (tcellL out) Cap.any)] [(AV.slice 1 (lsV ls1) Cap.any),(AV.slice 4 (tcellL out2) Cap.any)])/\
 (((((List.length (ls1)):Nat) <= 1000)/\
 (((sumL ls1:Nat) <= 1000000)/\
 (((List.length (out2)):Nat) <= 1000000)))/\
 (bcase (List.isEmpty (lsV ls))
 ((((24:Nat) <= 140737488355328)/\
 ((1:Nat) <= 4611686018427387904))/\
 (∃ ls3:List (List T),(∃ out4:List T,((WkL [(AV.slice 1 [AV.nilslice] (Cap.tok 0)),(AV.slice 4 (tcellL out) Cap.any)] [(AV.slice 1 (lsV ls3) Cap.any),(AV.slice 4 (tcellL out4) Cap.any)])/\
 (((((List.length (ls3)):Nat) <= 1000)/\
 (((sumL ls3:Nat) <= 1000000)/\
 (((List.length (out4)):Nat) <= 1000000)))/\
 (bcase (((Prod.snd (Prod.snd (checkS ls1 out2))):Int) == (Prod.snd (Prod.snd (checkS ls3 out4))))
 (bcase (((Prod.fst (Prod.snd (checkS ls1 out2))):Bool) == (Prod.fst (Prod.snd (checkS ls3 out4))))
 (∃ a5:List Nat,(([(AV.slice 1 (intsV (Prod.fst (checkS ls1 out2))) Cap.any),(AV.slice 1 (intsV (Prod.fst (checkS ls3 out4))) Cap.any)] = [(AV.slice 1 (intsV a5) Cap.any),(AV.slice 1 (intsV a5) Cap.any)])/\
 ((((List.length (a5)):Nat) <= 1000000)/\
 ((Rf (TV.v (AV.bool true)))/\
 True))))
 (((TV.v (AV.bool false)) = (TV.v (AV.bool true)))/\
 True))
 (((TV.v (AV.bool false)) = (TV.v (AV.bool true)))/\
 True)))))))
 ((((((0 + (List.length (lsV ls))) * 24):Nat) <= 140737488355328)/\
 (((0 + (List.length (lsV ls))):Nat) <= 4611686018427387904))/\
 ((((((((List.length ([] ++ (lsV ls))) + 1) * 24):Nat) <= 140737488355328)/\
 ((((List.length ([] ++ (lsV ls))) + 1):Nat) <= 4611686018427387904))/\
 (((0 + (List.length (lsV ls))):Nat) = (List.length ([] ++ (lsV ls)))))/\
 (∃ ls3:List (List T),(∃ out4:List T,((WkL [(AV.slice 1 (([] ++ (lsV ls)) ++ [AV.nilslice]) (Cap.tok 1)),(AV.slice 4 (tcellL out) Cap.any)] [(AV.slice 1 (lsV ls3) Cap.any),(AV.slice 4 (tcellL out4) Cap.any)])/\
 (((((List.length (ls3)):Nat) <= 1000)/\
 (((sumL ls3:Nat) <= 1000000)/\
 (((List.length (out4)):Nat) <= 1000000)))/\
 (bcase (((Prod.snd (Prod.snd (checkS ls1 out2))):Int) == (Prod.snd (Prod.snd (checkS ls3 out4))))
 (bcase (((Prod.fst (Prod.snd (checkS ls1 out2))):Bool) == (Prod.fst (Prod.snd (checkS ls3 out4))))
 (∃ a5:List Nat,(([(AV.slice 1 (intsV (Prod.fst (checkS ls1 out2))) Cap.any),(AV.slice 1 (intsV (Prod.fst (checkS ls3 out4))) Cap.any)] = [(AV.slice 1 (intsV a5) Cap.any),(AV.slice 1 (intsV a5) Cap.any)])/\
 ((((List.length (a5)):Nat) <= 1000000)/\
 ((Rf (TV.v (AV.bool true)))/\
 True))))
 (((TV.v (AV.bool false)) = (TV.v (AV.bool true)))/\
 True))
 (((TV.v (AV.bool false)) = (TV.v (AV.bool true)))/\
 True)))))))))))))))))))):=by kernel_rfl
end Go.V
/- The law StreamShorter. -/
set_option linter.unusedSimpArgs false
set_option linter.unusedSectionVars false
namespace Go.V
open Go Go.Proofs

theorem ACalls.args {E:Env} {f:Nat} {xs ys:List AV} {σ:State} {Q:AV -> State -> Prop} (h:ACalls E f ys σ Q) (hw:WkL xs ys):ACalls E f xs σ Q :=
 ⟨fun g w vs hG hS hv => h.run g w vs hG hS (hw.rv hv)⟩

theorem mgF_len {ls:List (List T)} {out:List T}:∀ (n:Nat) (p o:List Nat),mgF ls out n p = some o -> o.length = n
 | 0,p,o,h => by rw [mgF] at h; cases h; rfl
 | n + 1,p,o,h => by
  rw [mgF_succ] at h
  have:∀ l:List Nat,tryI (cand ls out p n) l = some o -> o.length = n + 1:=by
   intro l
   induction l with
   | nil => intro h; cases h
   | cons i r ih =>
    intro h
    unfold tryI at h
    split at h
    ·rename_i o' ho
     cases h
     unfold cand at ho
     split at ho
     ·cases hm:mgF ls out n (p.set i (p.getD i 0 + 1)) with
      | none => rw [hm] at ho; cases ho
      | some o2 =>
       rw [hm] at ho
       cases ho
       rw [List.length_cons,mgF_len n _ o2 hm]
     ·cases ho
    ·exact ih h
  exact this _ h
theorem checkS_len (ls:List (List T)) (out:List T):(checkS ls out).1.length <= out.length:=by
 unfold checkS
 split
 ·exact Nat.zero_le _
 ·split
  ·exact Nat.zero_le _
  ·split
   ·exact Nat.zero_le _
   ·split
    ·exact Nat.zero_le _
    ·split
     ·rename_i o h
      rw [mgF_len _ _ _ h]; exact Nat.le_refl _
     ·exact Nat.zero_le _

section
variable {B:Nat} {w0:World} {G:Nat -> AV}
theorem c18w_ok (hG:∀ i,NoId (G i)):ContractOk (EV B w0 G) 18 C18w:=by
 rintro args σ Q ⟨ls,out,hw,hb,hQ⟩
 exact (c18_ok hG _ σ Q ⟨ls,out,rfl,hb,hQ⟩).args hw
theorem c20n_ok (hG:∀ i,NoId (G i)):ContractOk (EV B w0 G) 20 C20n:=by
 rintro args σ Q ⟨a,rfl,hb,hQ⟩
 refine c20_ok hG _ σ Q ⟨a.map fun n:Nat => (n:Int),a.map fun n:Nat => (n:Int),by rw [intsV_Z],by rw [List.length_map]; exact hb,?_⟩
 rw [decide_eq_true rfl]; exact hQ

theorem lsV_snoc (ls:List (List T)):WkL (flat (lsV ls ++ [AV.nilslice])) (flat (lsV (ls ++ [[]]))):=by
 rw [show lsV (ls ++ [[]]) = lsV ls ++ [slV []] by unfold lsV; rw [List.map_append]; rfl]
 unfold flat
 rw [List.flatMap_append,List.flatMap_append]
 exact WkL.append (.refl _) (.cons (Wk.nil 4) .nil)
theorem lsV_all (ls:List (List T)):(flat (lsV ls)).all AV.one = true:=by
 rw [lsV_flat]
 unfold lsV
 rw [List.all_map,List.all_eq_true]
 intro x _; rfl
theorem lsV_cells (ls:List (List T)):∀ x ∈ lsV ls,x.cells.length = 1:=fun x hx => by
 unfold lsV at hx
 obtain ⟨l,_,rfl⟩:=List.mem_map.1 hx
 rfl
theorem wk_snoc (ls:List (List T)) (m:Cap):Wk (.slice 1 (lsV ls ++ [AV.nilslice]) m) (.slice 1 (lsV (ls ++ [[]])) .any) :=
 Wk.sliceL (by unfold lsV; simp) (lsV_snoc ls) (lsV_cells _) (lsV_all _)

theorem H5_ok:HOk1 (EV B w0 G1) (H5 (EV B w0 G1)):=hnd_ok (EV_mixed B w0 G1) (contracts_cons c16_ok (contracts_cons (c25_ok G1_noId) (contracts_cons (c26_ok G1_noId) (contracts_cons (c17_ok G1_noId) (contracts_cons (c18w_ok G1_noId) (contracts_cons (c20n_ok G1_noId) contracts_nil))))))

theorem shorter_ok (m n:Int) (ls:List (List T)) (out:List T) (hb1:sumL ls <= 1099511627776) (hb2:ls.length <= 1099511627776) :
  ACalls (EV B w0 G1) 5 [.agg [.int .i64 m,.int .i64 n,.slice 1 (lsV ls) .any,slV out]] noObj (fun v σ' => v = .bool true):=by
 refine bodyX_ok (cuts:=cuts5) (A:=annA5) (EV_mixed B w0 G1) H5_ok (fun lp hl _ Q a' σ kk => ?_) ((vc5 B w0 G1 m n ls out _).mpr ?_)
 ·change lp ∈ fnParts Tryz.prog cuts5 5 at hl
  rw [fnParts_5] at hl
  simp only [List.mem_cons,List.not_mem_nil,or_false] at hl
  subst hl
  refine handL_ok (P:=fun c Q a σ => AWp (EV B w0 G1) none (fnTmps Tryz.prog 5) c Q a σ) kk (fun _ k => ?_) (fun k => k.elim)
  obtain ⟨hat,hR⟩:=k
  refine .post_wk (.pre_wk (atF_ok hat).1 (atF_ok hat).2 ((wpX_ok (cuts:=cuts5) (L:=fun _ _ _ _ => False) H5_ok (EV_mixed B w0 G1) _ _ _ _ (fun _ _ _ Q a σ k => k.elim) (by kernel_rfl) ((vc5t B w0 G1 ls out).mpr ?_)).mono fun e a σ k => ?_))
  ·refine bcase_of (fun h => ⟨rfl,trivial⟩) (fun h => ⟨ls,rfl,⟨hb1,hb2⟩,bcase_of (fun h2 => ⟨rfl,trivial⟩) (fun h2 => bcase_of (fun h3 => ⟨rfl,trivial⟩) (fun h3 => ?_))⟩)
   have h:=of_decide_eq_false h
   rw [lsV_len] at h
   have h3:=of_decide_eq_false h3
   rw [tcellL_length] at h3
   have hs:sumL ls <= 1000:=by
    have h2:smallB ls = true:=by simpa using h2
    unfold smallB at h2
    rw [Bool.and_eq_true,decide_eq_true_eq,decide_eq_true_eq] at h2
    omega
   have hlen:ls.length < 8:=by omega
   have hc:=checkS_nil (out:=out) hlen
   have hs2:sumL (ls ++ [[]]) = sumL ls:=by unfold sumL; simp
   have hl2:(ls ++ [([]:List T)]).length = ls.length + 1:=by simp
   have hcl:=checkS_len ls out
   have fin:bcase ((checkS ls out).2.2 == (checkS (ls ++ [[]]) out).2.2) (bcase ((checkS ls out).2.1 == (checkS (ls ++ [[]]) out).2.1)
     (∃ a5:List Nat,[AV.slice 1 (intsV (checkS ls out).1) .any,AV.slice 1 (intsV (checkS (ls ++ [[]]) out).1) .any] = [AV.slice 1 (intsV a5) .any,AV.slice 1 (intsV a5) .any] /\ a5.length <= 1000000 /\ TV.v (AV.bool true) = TV.v (AV.bool true) /\ True)
     (TV.v (AV.bool false) = TV.v (AV.bool true) /\ True)) (TV.v (AV.bool false) = TV.v (AV.bool true) /\ True):=by
    rw [hc]
    refine bcase_of (fun _ => bcase_of (fun _ => ⟨_,rfl,by omega,rfl,trivial⟩) (fun h => by simp at h)) (fun h => by simp at h)
   refine ⟨ls,out,.refl _,⟨by omega,by omega,by omega⟩,bcase_of (fun he => ?_) (fun he => ?_)⟩
   ·have e:ls = []:=by cases ls with | nil => rfl | cons x l => cases he
    refine ⟨⟨by omega,by omega⟩,ls ++ [[]],out,?_,⟨by omega,by omega,by omega⟩,fin⟩
    subst e
    exact .cons (wk_snoc [] _) (.refl _)
   ·refine ⟨⟨by rw [lsV_len]; omega,by rw [lsV_len]; omega⟩,⟨⟨by rw [List.nil_append,lsV_len]; omega,by rw [List.nil_append,lsV_len]; omega⟩,by rw [List.nil_append]; omega⟩,ls ++ [[]],out,?_,⟨by omega,by omega,by omega⟩,fin⟩
    rw [List.nil_append]
    exact .cons (wk_snoc ls _) (.refl _)
  ·cases e with
   | ret => exact ⟨_,_,(atF_ok (F:=[(2,.v (.bool true))]) (FL:=[]) (R:=True) k).1,.refl _,hR σ⟩
   | _ => exact k.elim
 ·refine ⟨rfl,bcase_of (fun h1 => bcase_of (fun h2 => bcase_of (fun h3 => ?_) (fun h3 => ⟨⟨rfl,rfl,noObj_le⟩,fun σ' => rfl⟩)) (fun h2 => ⟨⟨rfl,rfl,noObj_le⟩,fun σ' => rfl⟩)) (fun h1 => ⟨⟨rfl,rfl,noObj_le⟩,fun σ' => rfl⟩)⟩
  have h1:=of_decide_eq_true h1
  have h2:=of_decide_eq_true h2
  have h3:=of_decide_eq_true h3
  obtain ⟨m',rfl⟩:∃ k:Nat,m = (k:Int):=⟨m.toNat,by omega⟩
  obtain ⟨n',rfl⟩:∃ k:Nat,n = (k:Int):=⟨n.toNat,by omega⟩
  have wm:IntKind.wrap .i64 ((m':Int) + 1) = ((m' + 1:Nat):Int):=by rw [wr_small (by omega) (by omega)]; omega
  have wn:IntKind.wrap .i64 ((n':Int) + 1) = ((n' + 1:Nat):Int):=by rw [wr_small (by omega) (by omega)]; omega
  refine ⟨m',rfl,by omega,n',rfl,by omega,?_⟩
  rw [wm,wn,procsV_len,procsV_len]
  refine bcase_of (fun h => by simp at h) (fun _ => bcase_of (fun h => by simp at h) (fun _ => ⟨⟨by omega,by omega⟩,m',?_,by omega,⟨rfl,rfl,noObj_le⟩,fun σ' => rfl⟩))
  rw [Int.toNat_natCast,List.drop_zero,procsV_take (by omega)]
end
end Go.V
