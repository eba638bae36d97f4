import Derived.Test.YtgnjidopnplbbaaGreatDoorN14
import Derived.Test.YtgnjidopnplbbaaGreatDoorN11
import Derived.Test.YtgnjidopnplbbaaGreatDoorN8
/- Small facts that mergers need of terms, and the contract of sane. -/
set_option maxRecDepth 1000000
set_option linter.unusedVariables false
set_option linter.unusedSimpArgs false
set_option linter.unusedSectionVars false
namespace Go.V
open Go Go.Proofs

theorem flat_one (l:List T):(flat (tcellL l)).all AV.one = true:=by
 induction l with
 | nil => rfl
 | cons t l ih =>
  rw [tcellL,flat_cons,List.all_append,ih,tcell_eq]
  rfl

theorem formB_len {t:T} (h:formB t = true):t.l.length <= 64:=by
 unfold formB at h
 split at h
 ·simp only [Bool.and_eq_true,decide_eq_true_eq] at h; omega
 ·split at h
  ·simp only [Bool.and_eq_true,decide_eq_true_eq] at h; omega
  ·split at h
   ·simp only [Bool.and_eq_true,decide_eq_true_eq] at h; omega
   ·split at h
    ·simp only [Bool.and_eq_true,decide_eq_true_eq] at h; omega
    ·split at h
     ·simp only [Bool.and_eq_true,decide_eq_true_eq] at h; omega
     ·split at h
      ·simp only [Bool.and_eq_true,decide_eq_true_eq] at h; omega
      ·cases h

theorem wr_id {n:Int} (h1:-1000000 <= n) (h2:n <= 1000000):wr n = n:=wr_small (by omega) (by omega)

mutual
theorem count_small:∀ (t:T) (left deep:Int),0 <= left -> left <= 4000 -> (1 <= count t left deep /\ count t left deep <= left + 1) /\ (count t left deep <= left -> t.small)
 | .mk k n s l,left,deep,h0,h1 => by
  rw [count]
  split
  ·rename_i hb
   have hl:1 <= left:=by
    unfold nodeB at hb
    simp at hb; omega
   have hf:formB (.mk k n s l) = true:=by
    unfold nodeB at hb
    simp at hb; exact hb.2.2
   have h2:=countL_small l 1 left deep (by omega) hl h1
   exact ⟨h2.1,fun h => by rw [T.small]; exact ⟨formB_len hf,h2.2 h⟩⟩
  ·rw [wr_id (by omega) (by omega)]
   exact ⟨⟨by omega,by omega⟩,fun h => by omega⟩
theorem countL_small:∀ (l:List T) (n left deep:Int),1 <= n -> n <= left -> left <= 4000 -> (1 <= countL l n left deep /\ countL l n left deep <= left + 1) /\ (countL l n left deep <= left -> smallL l)
 | [],n,left,deep,h0,h1,h2 => by
  rw [countL]
  exact ⟨⟨by omega,by omega⟩,fun _ => by rw [smallL]; trivial⟩
 | x :: l,n,left,deep,h0,h1,h2 => by
  rw [countL,wr_id (n:=left - n) (by omega) (by omega)]
  have hx:=count_small x (left - n) (wr (deep - 1)) (by omega) (by omega)
  generalize count x (left - n) (wr (deep - 1)) = c at hx
  rw [wr_id (n:=n + c) (by omega) (by omega)]
  split
  ·rw [wr_id (by omega) (by omega)]
   exact ⟨⟨by omega,by omega⟩,fun h => by omega⟩
  ·rename_i hc
   have hl:=countL_small l (n + c) left deep (by omega) (by omega) h2
   exact ⟨hl.1,fun h => by rw [smallL]; exact ⟨hx.2 (by omega),hl.2 h⟩⟩
end

theorem chk_small {t:T} (h:chkT t = 0):t.small:=by
 unfold chkT at h
 split at h
 ·cases h
 ·exact (count_small t 4000 600 (by omega) (by omega)).2 (by omega)

theorem flat_tcl:∀ (l:List T),(flat (tcellL l)).length = l.length * 4
 | [] => rfl
 | x :: l => by
  rw [tcellL,flat_cons,List.length_append,flat_tcl l,tcell_eq]
  show 4 + l.length * 4 = _
  simp; omega
theorem flat_push (l:List T) (t:T):List.take (l.length * 4) (flat (tcellL l)) ++ tc t = flat (tcellL (l ++ [t])):=by
 rw [<-flat_tcl l,List.take_length]
 have:tcellL (l ++ [t]) = tcellL l ++ [tcell t]:=by simp [tcellL_eq]
 rw [this,flat_append,tcell_eq]
 simp [flat,AV.cells]

theorem same_refl_aux:(∀ t:T,same t t = true) /\ (∀ l:List T,sameL l l = true):=by
 have h:∀ n:Nat,(∀ t:T,SizeOf.sizeOf t < n -> same t t = true) /\ (∀ l:List T,SizeOf.sizeOf l < n -> sameL l l = true):=by
  intro n
  induction n with
  | zero => exact ⟨fun t h => by omega,fun l h => by omega⟩
  | succ n ih =>
   refine ⟨fun t h => ?_,fun l h => ?_⟩
   ·rw [same_eq]
    have hb:bseq t.s t.s = true:=by simp [bseq]
    rw [hb,ih.2 t.l (by have:=t.sizeOf_l; omega)]
    simp
   ·cases l with
    | nil => rfl
    | cons x l =>
     simp at h
     rw [sameL,ih.1 x (by omega),ih.2 l (by omega)]; rfl
 exact ⟨fun t => (h (SizeOf.sizeOf t + 1)).1 t (Nat.lt_succ_self _),fun l => (h (SizeOf.sizeOf l + 1)).2 l (Nat.lt_succ_self _)⟩

def C16:Contract:=fun args σ K => args = [] /\ K (.bool true) σ.untok
section
variable {B:Nat} {w0:World}
theorem c16_ok:ContractOk (EV B w0 G1) 16 C16:=by
 rintro args σ Q ⟨rfl,hQ⟩
 exact sane_ok B w0 hQ
end
end Go.V
