import Derived.Test.YtgnjidopnplbbaaGreatDoorG14
import Derived.Test.YtgnjidopnplbbaaGreatDoorG11
import Derived.Test.YtgnjidopnplbbaaGreatDoorG8
/- Small facts that mergers need of terms, and the contract of sane. -/
set_option maxRecDepth 1000000
set_option linter.unusedVariables false
set_option linter.unusedSimpArgs false
set_option linter.unusedSectionVars false
namespace Go.V
open Go Go.Proofs

theorem formB_len {t:T} (h:formB t = true):t.l.length <= 64:=by
 unfold formB at h
 split at h
 ·simp only [Bool.and_eq_true,decide_eq_true_eq] at h; omega
 ·split at h
  ·simp only [Bool.and_eq_true,decide_eq_true_eq] at h; omega
  ·split at h
   ·simp only [Bool.and_eq_true,decide_eq_true_eq] at h; omega
   ·split at h
    ·simp only [Bool.and_eq_true,decide_eq_true_eq] at h; omega
    ·split at h
     ·simp only [Bool.and_eq_true,decide_eq_true_eq] at h; omega
     ·split at h
      ·simp only [Bool.and_eq_true,decide_eq_true_eq] at h; omega
      ·cases h

theorem wr_id {n:Int} (h1:-1000000 <= n) (h2:n <= 1000000):wr n = n:=wr_small (by omega) (by omega)

mutual
theorem count_small:∀ (t:T) (left deep:Int),0 <= left -> left <= 4000 -> (1 <= count t left deep /\ count t left deep <= left + 1) /\ (count t left deep <= left -> t.small)
 | .mk k n s l,left,deep,h0,h1 => by
  rw [count]
  split
  ·rename_i hb
   have hl:1 <= left:=by
    unfold nodeB at hb
    simp at hb; omega
   have hf:formB (.mk k n s l) = true:=by
    unfold nodeB at hb
    simp at hb; exact hb.2.2
   have h2:=countL_small l 1 left deep (by omega) hl h1
   exact ⟨h2.1,fun h => by rw [T.small]; exact ⟨formB_len hf,h2.2 h⟩⟩
  ·rw [wr_id (by omega) (by omega)]
   exact ⟨⟨by omega,by omega⟩,fun h => by omega⟩
theorem countL_small:∀ (l:List T) (n left deep:Int),1 <= n -> n <= left -> left <= 4000 -> (1 <= countL l n left deep /\ countL l n left deep <= left + 1) /\ (countL l n left deep <= left -> smallL l)
 | [],n,left,deep,h0,h1,h2 => by
  rw [countL]
  exact ⟨⟨by omega,by omega⟩,fun _ => by rw [smallL]; trivial⟩
 | x :: l,n,left,deep,h0,h1,h2 => by
  rw [countL,wr_id (n:=left - n) (by omega) (by omega)]
  have hx:=count_small x (left - n) (wr (deep - 1)) (by omega) (by omega)
  generalize count x (left - n) (wr (deep - 1)) = c at hx
  rw [wr_id (n:=n + c) (by omega) (by omega)]
  split
  ·rw [wr_id (by omega) (by omega)]
   exact ⟨⟨by omega,by omega⟩,fun h => by omega⟩
  ·rename_i hc
   have hl:=countL_small l (n + c) left deep (by omega) (by omega) h2
   exact ⟨hl.1,fun h => by rw [smallL]; exact ⟨hx.2 (by omega),hl.2 h⟩⟩
end

theorem chk_small {t:T} (h:chkT t = 0):t.small:=by
 unfold chkT at h
 split at h
 ·cases h
 ·exact (count_small t 4000 600 (by omega) (by omega)).2 (by omega)

def C16:Contract:=fun args σ K => args = [] /\ K (.bool true) σ.untok
section
variable {B:Nat} {w0:World}
theorem c16_ok:ContractOk (EV B w0 G1) 16 C16:=by
 rintro args σ Q ⟨rfl,hQ⟩
 exact sane_ok B w0 hQ
end
end Go.V
