import Derived.Test.YtgnjidopnplbbaaGreatDoorG9
import Derived.Test.YtgnjidopnplbbaaGreatDoorG8
/- Terms as trees, and as values. -/
set_option linter.unusedSimpArgs false
set_option linter.unusedVariables false
namespace Go.V

inductive T where
 | mk (k n:Int) (s:ByteArray) (l:List T)

def T.k:T -> Int
 | .mk k _ _ _ => k
def T.n:T -> Int
 | .mk _ n _ _ => n
def T.s:T -> ByteArray
 | .mk _ _ s _ => s
def T.l:T -> List T
 | .mk _ _ _ l => l

mutual
def tcell:T -> AV
 | .mk k n s l => .agg [.int .i64 k,.int .i64 n,.str s,.slice 4 (tcellL l) .any]
def tcellL:List T -> List AV
 | [] => []
 | t :: l => tcell t :: tcellL l
end

def tc (t:T):List AV:=[.int .i64 t.k,.int .i64 t.n,.str t.s,.slice 4 (tcellL t.l) .any]
theorem tcell_eq (t:T):tcell t = .agg (tc t):=by
 cases t; rfl
theorem tcellL_eq:∀ l,tcellL l = l.map tcell
 | [] => rfl
 | t :: l => by simp [tcellL,tcellL_eq l]
theorem tcellL_length (l:List T):(tcellL l).length = l.length:=by rw [tcellL_eq,List.length_map]
theorem tcellL_getD {l:List T} {i:Nat} (h:i < l.length):(tcellL l).getD i .undef = tcell l[i]:=by
 rw [tcellL_eq,List.getD,List.getElem?_eq_getElem (by simpa using h)]
 simp

theorem T.sizeOf_l (t:T):SizeOf.sizeOf t.l < SizeOf.sizeOf t:=by
 cases t
 simp [T.l]
 omega
theorem T.sizeOf_mem {t x:T} (h:x ∈ t.l):SizeOf.sizeOf x < SizeOf.sizeOf t :=
 Nat.lt_trans (List.sizeOf_lt_of_mem h) t.sizeOf_l

mutual
theorem tcell_noId:∀ t,NoId (tcell t) /\ ∀ x ∈ (tcell t).cells,NoId x
 | .mk k n s l => by
  have h:=tcellL_noId l
  have hs:NoId (.slice 4 (tcellL l) .any):=.slice (by simp) h.2
  have hc:∀ x ∈ [AV.int .i64 k,.int .i64 n,.str s,.slice 4 (tcellL l) .any],NoId x:=by
   intro x hx
   simp only [List.mem_cons,List.not_mem_nil,or_false] at hx
   rcases hx with rfl | rfl | rfl | rfl
   ·exact .int _ _
   ·exact .int _ _
   ·exact .str _
   ·exact hs
  exact ⟨.agg hc,hc⟩
theorem tcellL_noId:∀ l,(∀ x ∈ tcellL l,NoId x) /\ ∀ x ∈ flat (tcellL l),NoId x
 | [] => ⟨by simp [tcellL],by simp [tcellL,flat]⟩
 | t :: l => by
  have h1:=tcell_noId t
  have h2:=tcellL_noId l
  refine ⟨fun x hx => ?_,fun x hx => ?_⟩
  ·simp only [tcellL] at hx
   rcases List.mem_cons.1 hx with rfl | hx
   ·exact h1.1
   ·exact h2.1 x hx
  ·simp only [tcellL,flat_cons] at hx
   rcases List.mem_append.1 hx with hx | hx
   ·exact h1.2 x hx
   ·exact h2.2 x hx
end
theorem tc_noId (t:T):∀ x ∈ tc t,NoId x:=by
 have:=(tcell_noId t).2
 rw [tcell_eq] at this
 exact this
theorem agg_tc_noId (t:T):NoId (.agg (tc t)):=.agg (tc_noId t)

def bareV:AV:=.vptr [.func (.func 150) [] []]
def formsV:AV:=.agg [.nilfunc,.func (.func 151) [] [bareV],.func (.func 152) [] [bareV],.func (.func 153) [] [bareV],.func (.func 155) [] [bareV],.func (.func 156) [] [bareV],.func (.func 157) [] [bareV]]
end Go.V
/- How great a term is, and how deep. -/
namespace Go.V
mutual
def T.size:T -> Nat
 | .mk _ _ _ l => 1 + sizeL l
def sizeL:List T -> Nat
 | [] => 0
 | x :: l => x.size + sizeL l
end
mutual
def T.deep:T -> Nat
 | .mk _ _ _ l => 1 + deepL l
def deepL:List T -> Nat
 | [] => 0
 | x :: l => max x.deep (deepL l)
end
theorem T.size_eq (t:T):t.size = 1 + sizeL t.l:=by cases t; rw [T.size]; rfl
theorem T.deep_eq (t:T):t.deep = 1 + deepL t.l:=by cases t; rw [T.deep]; rfl
theorem T.size_pos (t:T):1 <= t.size:=by rw [T.size_eq]; omega
mutual
def T.bulk:T -> Nat
 | .mk _ _ s l => 1 + s.size + bulkL l
def bulkL:List T -> Nat
 | [] => 0
 | x :: l => x.bulk + bulkL l
end
theorem T.bulk_eq (t:T):t.bulk = 1 + t.s.size + bulkL t.l:=by cases t; rw [T.bulk]; rfl
theorem bulkL_eq:∀ l:List T,bulkL l = (l.map T.bulk).sum
 | [] => rfl
 | x :: l => by rw [bulkL,bulkL_eq l]; rfl
theorem bulkL_mem:∀ {l:List T} {x:T},x ∈ l -> x.bulk <= bulkL l
 | y :: l,x,h => by
  rw [bulkL]
  rcases List.mem_cons.1 h with rfl | h
  ·omega
  ·have:=bulkL_mem h; omega
mutual
theorem T.size_bulk:∀ t:T,t.size <= t.bulk
 | .mk k n s l => by
  have:=sizeL_bulk l
  rw [T.size,T.bulk]; omega
theorem sizeL_bulk:∀ l:List T,sizeL l <= bulkL l
 | [] => Nat.le_refl _
 | x :: l => by
  have:=x.size_bulk
  have:=sizeL_bulk l
  rw [sizeL,bulkL]; omega
end
mutual
theorem T.deep_size:∀ t:T,t.deep <= t.size
 | .mk k n s l => by
  have:=deepL_size l
  rw [T.size,T.deep]; omega
theorem deepL_size:∀ l:List T,deepL l <= sizeL l
 | [] => Nat.le_refl _
 | x :: l => by
  have:=x.deep_size
  have:=deepL_size l
  rw [sizeL,deepL]; omega
end
theorem sizeL_len:∀ l:List T,l.length <= sizeL l
 | [] => Nat.zero_le _
 | x :: l => by
  have:=sizeL_len l
  have:=x.size_pos
  rw [sizeL]; simp; omega
theorem T.len_size (t:T):t.l.length < t.size:=by
 have:=sizeL_len t.l
 rw [T.size_eq]; omega
end Go.V
