import Derived.Test.YtgnjidopnplbbaaGreatDoorV15
import Derived.Test.YtgnjidopnplbbaaGreatDoorV12
/- Conditions: the reference's check of terms. -/
set_option maxRecDepth 1000000
set_option linter.unusedVariables false
namespace Go.V
open Go Go.Proofs

def okFrom (s:ByteArray) (i:Nat):Bool:=(s.data.toList.drop i).all fun b => decide (32 <= b.toNat) && decide (b.toNat <= 126)
def nameR (s:ByteArray):Bool:=okFrom s 0 && (decide ((s.size:Int) ≥ 1) && decide ((s.size:Int) <= 32))
def nodeR (t:T):Bool :=
 if t.k = 1 then (decide (t.n ≥ 0) && (decide (t.n < 100000) && (bseq t.s ⟨⟨[]⟩⟩ && decide ((t.l.length:Int) = 0))))
 else if t.k = 2 then (decide (t.n ≥ -2147483647) && (decide (t.n <= 2147483647) && (bseq t.s ⟨⟨[]⟩⟩ && decide ((t.l.length:Int) = 0))))
 else if t.k = 3 then (decide (t.n = 0) && (nameR t.s && decide ((t.l.length:Int) = 0)))
 else if t.k = 4 then (decide (t.n = 0) && (decide ((t.s.size:Int) <= 255) && decide ((t.l.length:Int) = 0)))
 else if t.k = 5 then (decide (t.n = 0) && (nameR t.s && (decide ((t.l.length:Int) ≥ 1) && decide ((t.l.length:Int) <= 16))))
 else if t.k = 6 then (decide (t.n = 0) && (bseq t.s ⟨⟨[]⟩⟩ && decide ((t.l.length:Int) <= 64)))
 else false
mutual
def nodesR:T -> Bool
 | .mk k n s l => nodeR (.mk k n s l) && nodesRL l
def nodesRL:List T -> Bool
 | [] => true
 | x :: l => nodesR x && nodesRL l
end
def isR (t:T):Bool:=decide ((t.size:Int) <= 4000) && (decide ((t.deep:Int) <= 600) && nodesR t)
end Go.V
/- The reference's check of terms: it says what the program's says. -/
set_option linter.unusedSimpArgs false
set_option linter.unusedSectionVars false
namespace Go.V
open Go Go.Proofs

theorem decode_ascii {s:ByteArray} {i:Nat} (h:(s.get! i).toNat < 128):Utf8.decode s i = ((s.get! i).toNat,1):=by
 unfold Utf8.decode
 dsimp only
 exact if_pos h
theorem decode_high {s:ByteArray} {i:Nat} (h:¬ (s.get! i).toNat < 128):128 <= (Utf8.decode s i).1:=by
 unfold Utf8.decode
 dsimp only
 simp only [Nat.add_zero]
 rw [if_neg h]
 have e:128 <= Utf8.runeError:=by decide
 split
 ·split
  ·assumption
  ·exact e
 ·split
  ·split
   ·rename_i h1
    simp only [Bool.and_eq_true,decide_eq_true_eq] at h1
    omega
   ·exact e
  ·split
   ·split
    ·rename_i h1
     simp only [Bool.and_eq_true,decide_eq_true_eq] at h1
     omega
    ·exact e
   ·exact e

theorem get!_eq {s:ByteArray} {i:Nat} (h:i < s.size):s.get! i = s.data.toList[i]'(by have h':i < s.data.size:=h; simpa using h'):=by
 have h':i < s.data.size:=h
 cases s with
 | mk d =>
  show d[i]! = _
  rw [getElem!_pos d i h']
  simp
theorem okFrom_step {s:ByteArray} {i:Nat} (h:i < s.size):okFrom s i = ((decide (32 <= (s.get! i).toNat) && decide ((s.get! i).toNat <= 126)) && okFrom s (i + 1)):=by
 have h':i < s.data.toList.length:=by have h':i < s.data.size:=h; simpa using h'
 unfold okFrom
 rw [List.drop_eq_getElem_cons h',List.all_cons,get!_eq h]
theorem okFrom_end {s:ByteArray} {i:Nat} (h:s.size <= i):okFrom s i = true:=by
 have h':s.data.toList.length <= i:=by have h':s.data.size <= i:=h; simpa using h'
 unfold okFrom
 rw [List.drop_of_length_le h']; rfl

theorem firstBad_ok {s:ByteArray}:∀ (n i:Nat),s.size < i + n -> (firstBad s n i < 0 ↔ okFrom s i = true)
 | 0,i,h => by
  rw [firstBad,okFrom_end (by omega)]
  exact ⟨fun _ => rfl,fun _ => by omega⟩
 | n + 1,i,h => by
  unfold firstBad
  by_cases hi:i < s.size
  ·rw [if_pos hi,okFrom_step hi]
   by_cases h1:(s.get! i).toNat < 128
   ·rw [decode_ascii h1]
    dsimp only
    by_cases h2:((s.get! i).toNat:Int) < 32 \/ ((s.get! i).toNat:Int) > 126
    ·rw [if_pos h2]
     refine ⟨fun k => by omega,fun k => ?_⟩
     simp only [Bool.and_eq_true,decide_eq_true_eq] at k
     omega
    ·rw [if_neg h2,firstBad_ok n (i + 1) (by omega)]
     have h3:32 <= (s.get! i).toNat:=by omega
     have h4:(s.get! i).toNat <= 126:=by omega
     rw [decide_eq_true h3,decide_eq_true h4]; simp
   ·have h2:=decode_high h1
    rw [if_pos (.inr (by omega))]
    refine ⟨fun k => by omega,fun k => ?_⟩
    simp only [Bool.and_eq_true,decide_eq_true_eq] at k
    omega
  ·rw [if_neg hi,okFrom_end (by omega)]
   exact ⟨fun _ => rfl,fun _ => by omega⟩

theorem nameB_eq (s:ByteArray):nameB s = nameR s:=by
 unfold nameB nameR
 have:decide (bad s < 0) = okFrom s 0:=by
  have:=firstBad_ok (s:=s) (s.size + 1) 0 (by omega)
  cases h:okFrom s 0 with
  | true => exact decide_eq_true (this.2 h)
  | false => exact decide_eq_false fun k => by rw [this.1 k] at h; cases h
 rw [this,Bool.and_comm]

theorem formB_eq (t:T):formB t = nodeR t:=by
 unfold formB nodeR
 simp only [nameB_eq]
 repeat' split
 all_goals (first | rfl | (simp only [Bool.and_comm,Bool.and_left_comm]; done) | (cases bseq t.s ⟨⟨[]⟩⟩ <;> cases decide ((t.l.length:Int) = 0) <;> simp))

theorem nodesR_eq (t:T):nodesR t = (nodeR t && nodesRL t.l):=by cases t; rw [nodesR]; rfl

mutual
theorem count_is:∀ (t:T) (left deep:Int),0 <= left -> left <= 4000 -> 0 <= deep -> deep <= 600 ->
  (((t.size:Int) <= left /\ (t.deep:Int) <= deep /\ nodesR t = true -> count t left deep = t.size) /\ (¬ ((t.size:Int) <= left /\ (t.deep:Int) <= deep /\ nodesR t = true) -> count t left deep = left + 1))
 | .mk k n s l,left,deep,h0,h1,h2,h3 => by
  have hs:(T.mk k n s l).size = 1 + sizeL l:=T.size_eq _
  have hd:(T.mk k n s l).deep = 1 + deepL l:=T.deep_eq _
  have hn:nodesR (.mk k n s l) = (nodeR (.mk k n s l) && nodesRL l):=nodesR_eq _
  rw [count,hs,hd,hn,<-formB_eq]
  have hw:wr (left + 1) = left + 1:=wr_small (by omega) (by omega)
  by_cases hb:nodeB (.mk k n s l) left deep = true
  ·rw [if_pos hb]
   unfold nodeB at hb
   simp only [Bool.and_eq_true,Bool.not_eq_true',decide_eq_false_iff_not] at hb
   obtain ⟨b1,b2,b3⟩:=hb
   have ih:=countL_is l 1 left deep (by omega) (by omega) h1 (by omega) h3
   rw [b3]
   simp only [Bool.true_and]
   refine ⟨fun k => ?_,fun k => ?_⟩
   ·rw [ih.1 ⟨by omega,by omega,k.2.2⟩]; omega
   ·exact ih.2 fun j => k ⟨by omega,by omega,j.2.2⟩
  ·rw [if_neg hb,hw]
   refine ⟨fun k => ?_,fun _ => rfl⟩
   exfalso
   apply hb
   unfold nodeB
   simp only [Bool.and_eq_true] at k
   simp only [Bool.and_eq_true,Bool.not_eq_true',decide_eq_false_iff_not]
   exact ⟨by omega,by omega,k.2.2.1⟩
theorem countL_is:∀ (l:List T) (n left deep:Int),1 <= n -> n <= left -> left <= 4000 -> 1 <= deep -> deep <= 600 ->
  ((n + (sizeL l:Int) <= left /\ (deepL l:Int) <= deep - 1 /\ nodesRL l = true -> countL l n left deep = n + sizeL l) /\ (¬ (n + (sizeL l:Int) <= left /\ (deepL l:Int) <= deep - 1 /\ nodesRL l = true) -> countL l n left deep = left + 1))
 | [],n,left,deep,h0,h1,h2,h3,h4 => by
  rw [countL,sizeL,deepL,nodesRL]
  exact ⟨fun _ => by simp,fun k => absurd ⟨by simp; omega,by simp; omega,rfl⟩ k⟩
 | x :: l,n,left,deep,h0,h1,h2,h3,h4 => by
  have hw1:wr (left - n) = left - n:=wr_small (by omega) (by omega)
  have hw2:wr (deep - 1) = deep - 1:=wr_small (by omega) (by omega)
  have hw3:wr (left + 1) = left + 1:=wr_small (by omega) (by omega)
  have ih:=count_is x (left - n) (deep - 1) (by omega) (by omega) (by omega) (by omega)
  rw [countL,hw1,hw2,hw3,sizeL,deepL,nodesRL]
  by_cases hx:(x.size:Int) <= left - n /\ (x.deep:Int) <= deep - 1 /\ nodesR x = true
  ·rw [ih.1 hx]
   have hw4:wr (n + (x.size:Int)) = n + x.size:=wr_small (by omega) (by omega)
   rw [hw4,if_neg (by omega),hx.2.2]
   have ih2:=countL_is l (n + x.size) left deep (by omega) (by omega) h2 h3 h4
   simp only [Bool.true_and]
   refine ⟨fun k => ?_,fun k => ?_⟩
   ·rw [ih2.1 ⟨by omega,by omega,k.2.2⟩]; omega
   ·exact ih2.2 fun j => k ⟨by omega,by omega,j.2.2⟩
  ·rw [ih.2 hx]
   have hw4:wr (n + (left - n + 1)) = left + 1:=by rw [show n + (left - n + 1) = left + 1 by omega]; exact hw3
   rw [hw4,if_pos (by omega)]
   refine ⟨fun k => ?_,fun _ => rfl⟩
   exfalso
   apply hx
   simp only [Bool.and_eq_true] at k
   exact ⟨by omega,by omega,k.2.2.1⟩
end

theorem chkT_isR (t:T):chkT t = if isR t = true then 0 else 3:=by
 have:=count_is t 4000 600 (by omega) (by omega) (by omega) (by omega)
 unfold chkT isR
 by_cases h:(t.size:Int) <= 4000 /\ (t.deep:Int) <= 600 /\ nodesR t = true
 ·rw [this.1 h,if_neg (by omega),if_pos (by simp only [Bool.and_eq_true,decide_eq_true_eq]; exact h)]
 ·rw [this.2 h,if_pos (by omega),if_neg (by simp only [Bool.and_eq_true,decide_eq_true_eq]; exact h)]
end Go.V
/- The reference's check of terms: contracts. -/
namespace Go.V
open Go Go.Proofs

section
variable {B:Nat} {w0:World} {G:Nat -> AV}
variable (hG:∀ i,NoId (G i))
include hG
end
end Go.V
