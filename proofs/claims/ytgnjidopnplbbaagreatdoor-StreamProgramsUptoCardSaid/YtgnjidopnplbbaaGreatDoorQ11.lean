/- A part of the proof of the statement S8 (texts brought together and shortened by a program of this work). -/
import Derived.Test.YtgnjidopnplbbaaGreatDoorQ10
import Derived.Test.YtgnjidopnplbbaaGreatDoorQ9
import Derived.Test.YtgnjidopnplbbaaGreatDoorQ8
set_option maxRecDepth 1000000
namespace Go.V
theorem zMC (B:Nat) (w0:World):zHD (EV B w0 G1) zHI T1 300 200 (.fn 75) args75 zJZ (zLP query2)=true:=by kernel_rfl
theorem pure75 (B:Nat) (w0:World):zGR (EV B w0 G1) (zLO 75 tab75):=zLQ zLR fun p hp=>by
 simp only [tab75,List.mem_cons,List.not_mem_nil,or_false] at hp
 subst hp
 exact ⟨by kernel_rfl,by kernel_rfl,zM1 (T1_ok B w0) (zMC B w0)⟩
theorem T3_ok (B:Nat) (w0:World):∀ f h,T3 f=some h->zGR (EV B w0 G1) h:=fun f h e=>zM0 (fun p hp h e=>by
 simp only [List.mem_cons,List.not_mem_nil,or_false] at hp
 rcases hp with rfl | rfl | rfl | rfl
 ·cases e; exact zLN
 ·cases e; exact pure75 B w0
 ·cases e; exact pure18 B w0
 ·cases e; exact pure66 B w0) e
theorem zMD (B:Nat) (w0:World):zHD (EV B w0 G1) zHI T3 300 200 (.fn 16) [] zJZ (zLP (.bool true))=true:=by kernel_rfl

theorem sane_ok (B:Nat) (w0:World) {σ:zA6} {Q:AV->zA6->Prop} (hQ:Q (.bool true) σ.untok):zDV (EV B w0 G1) 16 [] σ Q:=by
 refine zDV.pureD 60 zLR (by simp) (zM1 (T3_ok B w0) (zMD B w0)) fun v σ' k => ?_
 unfold zLP at k
 split at k
 ·rename_i v' hv'
  have:=AV.same_ok _ _ k
  subst this
  exact ⟨_,_,hv',.refl _,.bool true,hQ⟩
 ·cases k
end Go.V
set_option linter.unusedSimpArgs false
set_option linter.unusedVariables false
namespace Go.V

inductive T where
 | mk (k n:Int) (s:ByteArray) (l:List T)

def T.k:T->Int
 | .mk k _ _ _=>k
def T.n:T->Int
 | .mk _ n _ _=>n
def T.s:T->ByteArray
 | .mk _ _ s _=>s
def T.l:T->List T
 | .mk _ _ _ l=>l

mutual
def zME:T->AV
 | .mk k n s l => .agg [.int .i64 k,.int .i64 n,.str s,.slice 4 (tcellL l) .any]
def tcellL:List T->List AV
 | []=>[]
 | t :: l=>zME t :: tcellL l
end

def tc (t:T):List AV:=[.int .i64 t.k,.int .i64 t.n,.str t.s,.slice 4 (tcellL t.l) .any]
theorem zMF (t:T):zME t = .agg (tc t):=by
 cases t; rfl
theorem zMG:∀ l,tcellL l=l.map zME
 | []=>rfl
 | t :: l=>by simp [tcellL,zMG l]
theorem zMH (l:List T):(tcellL l).length=l.length:=by rw [zMG,List.length_map]
theorem zMI {l:List T} {i:Nat} (h:i<l.length):(tcellL l).getD i .undef=zME l[i]:=by
 rw [zMG,List.getD,List.getElem?_eq_getElem (by simpa using h)]
 simp

theorem T.sizeOf_l (t:T):SizeOf.sizeOf t.l<SizeOf.sizeOf t:=by
 cases t
 simp [T.l]
 omega
theorem T.sizeOf_mem {t x:T} (h:x∈t.l):SizeOf.sizeOf x<SizeOf.sizeOf t :=
 Nat.lt_trans (List.sizeOf_lt_of_mem h) t.sizeOf_l

mutual
theorem zMJ:∀ t,zJV (zME t)/\∀ x∈(zME t).cells,zJV x
 | .mk k n s l=>by
  have h:=tcellL_noId l
  have hs:zJV (.slice 4 (tcellL l) .any):=.slice (by simp) h.2
  have hc:∀ x∈[AV.int .i64 k,.int .i64 n,.str s,.slice 4 (tcellL l) .any],zJV x:=by
   intro x hx
   simp only [List.mem_cons,List.not_mem_nil,or_false] at hx
   rcases hx with rfl | rfl | rfl | rfl
   ·exact .int _ _
   ·exact .int _ _
   ·exact .str _
   ·exact hs
  exact ⟨.agg hc,hc⟩
theorem tcellL_noId:∀ l,(∀ x∈tcellL l,zJV x)/\∀ x∈zA0 (tcellL l),zJV x
 | []=>⟨by simp [tcellL],by simp [tcellL,zA0]⟩
 | t :: l=>by
  have h1:=zMJ t
  have h2:=tcellL_noId l
  refine ⟨fun x hx => ?_,fun x hx => ?_⟩
  ·simp only [tcellL] at hx
   rcases List.mem_cons.1 hx with rfl | hx
   ·exact h1.1
   ·exact h2.1 x hx
  ·simp only [tcellL,zC3] at hx
   rcases List.mem_append.1 hx with hx | hx
   ·exact h1.2 x hx
   ·exact h2.2 x hx
end
theorem tc_noId (t:T):∀ x∈tc t,zJV x:=by
 have:=(zMJ t).2
 rw [zMF] at this
 exact this
theorem zMK (t:T):zJV (.agg (tc t)):=.agg (tc_noId t)

def zML:AV:=.vptr [.func (.func 150) [] []]
def zMM:AV:=.agg [.nilfunc,.func (.func 151) [] [zML],.func (.func 152) [] [zML],.func (.func 153) [] [zML],.func (.func 155) [] [zML],.func (.func 156) [] [zML],.func (.func 157) [] [zML]]
abbrev iZ (n:Int):AV:=.int .i64 n
abbrev sT (l:List T):AV:=.slice 4 (tcellL l) .any
abbrev Ut (σ:zA6):zA6:=σ.untok
abbrev Bd0 (b n:Nat):Prop:=b<=140737488355328/\n<=4611686018427387904
abbrev Bd (n b:Nat):Prop:=n*b<=140737488355328/\n<=4611686018427387904
end Go.V
namespace Go.V
mutual
def T.size:T->Nat
 | .mk _ _ _ l=>1+sizeL l
def sizeL:List T->Nat
 | []=>0
 | x :: l=>x.size+sizeL l
end
mutual
def T.deep:T->Nat
 | .mk _ _ _ l=>1+deepL l
def deepL:List T->Nat
 | []=>0
 | x :: l=>max x.deep (deepL l)
end
theorem T.size_eq (t:T):t.size=1+sizeL t.l:=by cases t; rw [T.size]; rfl
theorem T.deep_eq (t:T):t.deep=1+deepL t.l:=by cases t; rw [T.deep]; rfl
theorem zMN:∀ l:List T,sizeL l=(l.map T.size).sum
 | []=>rfl
 | x :: l=>by rw [sizeL,zMN l]; rfl
theorem T.size_pos (t:T):1<=t.size:=by rw [T.size_eq]; omega
mutual
def T.bulk:T->Nat
 | .mk _ _ s l=>1+s.size+bulkL l
def bulkL:List T->Nat
 | []=>0
 | x :: l=>x.bulk+bulkL l
end
theorem T.bulk_eq (t:T):t.bulk=1+t.s.size+bulkL t.l:=by cases t; rw [T.bulk]; rfl
theorem zMO:∀ l:List T,bulkL l=(l.map T.bulk).sum
 | []=>rfl
 | x :: l=>by rw [bulkL,zMO l]; rfl
theorem zMP:∀ {l:List T} {x:T},x∈l->x.bulk<=bulkL l
 | y :: l,x,h=>by
  rw [bulkL]
  rcases List.mem_cons.1 h with rfl | h
  ·omega
  ·have:=zMP h; omega
mutual
theorem T.size_bulk:∀ t:T,t.size<=t.bulk
 | .mk k n s l=>by
  have:=sizeL_bulk l
  rw [T.size,T.bulk]; omega
theorem sizeL_bulk:∀ l:List T,sizeL l<=bulkL l
 | []=>Nat.le_refl _
 | x :: l=>by
  have:=x.size_bulk
  have:=sizeL_bulk l
  rw [sizeL,bulkL]; omega
end
mutual
theorem T.deep_size:∀ t:T,t.deep<=t.size
 | .mk k n s l=>by
  have:=deepL_size l
  rw [T.size,T.deep]; omega
theorem deepL_size:∀ l:List T,deepL l<=sizeL l
 | []=>Nat.le_refl _
 | x :: l=>by
  have:=x.deep_size
  have:=deepL_size l
  rw [sizeL,deepL]; omega
end
theorem zMQ:∀ l:List T,l.length<=sizeL l
 | []=>Nat.zero_le _
 | x :: l=>by
  have:=zMQ l
  have:=x.size_pos
  rw [sizeL]; simp; omega
theorem T.len_size (t:T):t.l.length<t.size:=by
 have:=zMQ t.l
 rw [T.size_eq]; omega
theorem zMR:∀ {l:List T} {x:T},x∈l->x.size<=sizeL l
 | y :: l,x,h=>by
  rw [sizeL]
  rcases List.mem_cons.1 h with rfl | h
  ·omega
  ·have:=zMR h; omega
end Go.V
