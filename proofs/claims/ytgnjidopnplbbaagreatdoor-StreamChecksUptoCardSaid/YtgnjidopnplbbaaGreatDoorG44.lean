import Derived.Test.YtgnjidopnplbbaaGreatDoorG37
/- The reference's numbers of states: plain laws. -/
set_option maxRecDepth 1000000
set_option linter.unusedVariables false
set_option linter.unusedSimpArgs false
namespace Go.V
open Go Go.Proofs

def codeR:List (List T) -> List Nat -> Nat
 | _ :: ls,a :: p => a * prodL ls + codeR ls p
 | _,_ => 0
theorem codeR_lt:∀ {ls:List (List T)} {p:List Nat},Bnd ls p -> codeR ls p < prodL ls
 | [],[],_ => Nat.zero_lt_one
 | l :: ls,a :: p,h => by
  have ih:=codeR_lt h.2
  have h1:=h.1
  show a * prodL ls + codeR ls p < (l.length + 1) * prodL ls
  have:(a + 1) * prodL ls <= (l.length + 1) * prodL ls:=Nat.mul_le_mul_right _ (by omega)
  rw [Nat.add_mul] at this
  omega
 | [],a :: p,h => h.elim
 | l :: ls,[],h => h.elim
theorem codeR_set:∀ {ls:List (List T)} {p:List Nat} {i:Nat},Bnd ls p -> i < ls.length -> codeR ls (p.set i (p.getD i 0 + 1)) = codeR ls p + prodL (ls.drop (i + 1))
 | [],[],i,_,h => by simp at h
 | l :: ls,a :: p,0,_,h => by
  show (a + 1) * prodL ls + codeR ls p = a * prodL ls + codeR ls p + prodL ls
  rw [Nat.add_mul]; omega
 | l :: ls,a :: p,i + 1,hb,h => by
  have ih:=codeR_set (i:=i) hb.2 (by simpa using h)
  show a * prodL ls + codeR ls (p.set i (p.getD i 0 + 1)) = a * prodL ls + codeR ls p + prodL (ls.drop (i + 1))
  rw [ih]; omega
 | [],a :: p,_,h,_ => h.elim
 | l :: ls,[],_,h,_ => h.elim
theorem codeR_dig:∀ {ls:List (List T)} {p:List Nat} {i:Nat} {l:List T},Bnd ls p -> ls[i]? = some l -> codeR ls p / prodL (ls.drop (i + 1)) % (l.length + 1) = p.getD i 0
 | [],[],i,l,_,h => by simp at h
 | m :: ls,a :: p,0,l,hb,h => by
  obtain rfl:m = l:=by simpa using h
  have h1:=codeR_lt hb.2
  have h2:=hb.1
  show (a * prodL ls + codeR ls p) / prodL ls % (m.length + 1) = a
  rw [Nat.mul_comm,Nat.mul_add_div (prodL_pos ls),Nat.div_eq_of_lt h1,Nat.add_zero,Nat.mod_eq_of_lt (by omega)]
 | m :: ls,a :: p,i + 1,l,hb,h => by
  have h:ls[i]? = some l:=by simpa using h
  have ih:=codeR_dig (i:=i) hb.2 h
  show (a * prodL ls + codeR ls p) / prodL (ls.drop (i + 1)) % (l.length + 1) = p.getD i 0
  have hi:=getElem?_lt' h
  have e:prodL ls = prodL (ls.take i) * ((l.length + 1) * prodL (ls.drop (i + 1))):=by
   have h1:=prodL_append (ls.take i) (ls.drop i)
   rw [List.take_append_drop,List.drop_eq_getElem_cons hi] at h1
   rw [List.getElem?_eq_getElem hi] at h
   cases h
   exact h1
  have hp:=prodL_pos (ls.drop (i + 1))
  rw [e,show a * (prodL (ls.take i) * ((l.length + 1) * prodL (ls.drop (i + 1)))) = prodL (ls.drop (i + 1)) * ((l.length + 1) * (a * prodL (ls.take i))) by
   rw [Nat.mul_comm (l.length + 1) (prodL _),<-Nat.mul_assoc,<-Nat.mul_assoc,Nat.mul_comm (a * prodL (ls.take i)),Nat.mul_assoc,Nat.mul_comm (a * prodL (ls.take i))],Nat.mul_add_div hp,Nat.mul_add_mod]
  exact ih
 | [],a :: p,_,_,h,_ => h.elim
 | l :: ls,[],_,_,h,_ => h.elim
where
 getElem?_lt' {ls:List (List T)} {i:Nat} {l:List T} (h:ls[i]? = some l):i < ls.length:=by
  rcases Nat.lt_or_ge i ls.length with k | k
  ·exact k
  ·rw [List.getElem?_eq_none k] at h; cases h
theorem codeR_all:∀ (ls:List (List T)) (s:Nat),s < prodL ls -> ∃ p,Bnd ls p /\ codeR ls p = s
 | [],s,h => ⟨[],trivial,by
  have h:s < 1:=h
  show 0 = s
  omega⟩
 | l :: ls,s,h => by
  have h:s < (l.length + 1) * prodL ls:=h
  have hp:=prodL_pos ls
  obtain ⟨p,hb,hc⟩:=codeR_all ls (s % prodL ls) (Nat.mod_lt _ hp)
  refine ⟨s / prodL ls :: p,⟨?_,hb⟩,?_⟩
  ·have:=(Nat.div_lt_iff_lt_mul hp).2 h
   omega
  ·show s / prodL ls * prodL ls + codeR ls p = s
   rw [hc,Nat.mul_comm]
   exact Nat.div_add_mod s (prodL ls)
end Go.V
/- The reference's table of what goes on: plain laws. -/
namespace Go.V
open Go Go.Proofs

theorem tryI_cons (f:Nat -> Option (List Nat)) (i:Nat) (r:List Nat):tryI f (i :: r) = (match f i with | some o => some o | none => tryI f r):=rfl
def hdO:Option (List Nat) -> Int
 | some (i :: _) => (i:Int)
 | _ => -1
theorem hdO_cand {ls:List (List T)} {out:List T} {p:List Nat} {n i:Nat}:hdO (cand ls out p n i) = if (cand ls out p n i).isSome then (i:Int) else -1:=by
 unfold cand
 split
 ·cases mgF ls out n (p.set i (p.getD i 0 + 1)) <;> rfl
 ·rfl
theorem hdO_cons {ls:List (List T)} {out:List T} {p:List Nat} {n i:Nat} {r:List Nat}:hdO (tryI (cand ls out p n) (i :: r)) = if (cand ls out p n i).isSome then (i:Int) else hdO (tryI (cand ls out p n) r):=by
 rw [tryI_cons]
 cases h:cand ls out p n i with
 | none => rfl
 | some o =>
  have:=hdO_cand (ls:=ls) (out:=out) (p:=p) (n:=n) (i:=i)
  rw [h] at this
  exact this
def nextV (ls:List (List T)) (out:List T) (p:List Nat):Int:=hdO (mgF ls out (out.length - p.sum) p)
theorem nextV_succ {ls:List (List T)} {out:List T} {p:List Nat} {n:Nat} (h:n + 1 = out.length - p.sum):nextV ls out p = hdO (tryI (cand ls out p n) (List.range ls.length)):=by
 unfold nextV
 rw [<-h,mgF_succ]
theorem nextV_end {ls:List (List T)} {out:List T} {p:List Nat} (h:out.length - p.sum = 0):nextV ls out p = -1:=by
 unfold nextV
 rw [h,mgF]; rfl
theorem nextV_nonneg {ls:List (List T)} {out:List T} {p:List Nat} {n:Nat} (h:n + 1 = out.length - p.sum):0 <= nextV ls out p ↔ (mgF ls out (n + 1) p).isSome = true:=by
 have key:∀ l:List Nat,0 <= hdO (tryI (cand ls out p n) l) ↔ (tryI (cand ls out p n) l).isSome = true:=by
  intro l
  induction l with
  | nil => exact ⟨fun h => absurd (show (0:Int) <= -1 from h) (by omega),fun h => by cases h⟩
  | cons i r ih =>
   rw [hdO_cons,tryI_cons]
   cases hc:cand ls out p n i with
   | some o => exact ⟨fun _ => rfl,fun _ => by show 0 <= (i:Int); omega⟩
   | none => exact ih
 rw [nextV_succ h,mgF_succ]
 exact key _
theorem cand_some {ls:List (List T)} {out:List T} {p:List Nat} {n i:Nat} (hi:i < p.length) (h:n + 1 = out.length - p.sum) :
  (cand ls out p n i).isSome = (goesOn ls out p n i && (decide (p.sum + 1 = out.length) || decide (0 <= nextV ls out (p.set i (p.getD i 0 + 1))))):=by
 have hs:=sum_set hi
 unfold cand
 cases hg:goesOn ls out p n i with
 | false => rfl
 | true =>
  rw [Bool.true_and]
  dsimp only
  rw [Option.isSome_map]
  cases n with
  | zero => rw [mgF,decide_eq_true (by omega)]; rfl
  | succ m =>
   have h2:m + 1 = out.length - (p.set i (p.getD i 0 + 1)).sum:=by rw [hs]; omega
   have:=nextV_nonneg (ls:=ls) h2
   rw [decide_eq_false (by omega),Bool.false_or]
   cases e:(mgF ls out (m + 1) (p.set i (p.getD i 0 + 1))).isSome with
   | true => rw [decide_eq_true (this.2 e)]
   | false => rw [decide_eq_false fun k => by rw [this.1 k] at e; cases e]
end Go.V
