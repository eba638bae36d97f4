import Derived.Test.YtgnjidopnplbbaaGreatDoorG28
import Derived.Test.YtgnjidopnplbbaaGreatDoorG16
/- Conditions: the reference's Put, over values. -/
set_option maxRecDepth 1000000
set_option linter.unusedVariables false
namespace Go.V
open Go Go.Proofs

def hRSn:Hint:=⟨false,some ⟨RS,RS.v⟩,none,true⟩
end Go.V
/- The reference's Put, over values. -/
set_option linter.unusedSimpArgs false
set_option linter.unusedSectionVars false
namespace Go.V
open Go Go.Proofs

theorem chunk_tcL:∀ l:List T,chunk (some 4) (flat (tcellL l)) l.length = tcellL l
 | [] => rfl
 | x :: l => by
  show chunk (some 4) (flat (tcell x :: tcellL l)) (l.length + 1) = _
  obtain ⟨k,n,s,q⟩:=x
  rw [flat_cons]
  show AV.agg ((([.int .i64 k,.int .i64 n,.str s,.slice 4 (tcellL q) .any]:List AV) ++ flat (tcellL l)).take 4) :: chunk (some 4) ((([.int .i64 k,.int .i64 n,.str s,.slice 4 (tcellL q) .any]:List AV) ++ flat (tcellL l)).drop 4) l.length = _
  rw [List.take_left' (by rfl),List.drop_left' (by rfl),chunk_tcL l]; rfl
theorem kind37:kindT Tryz.prog 37 = some (some 4):=by kernel_rfl

def QV2 (σ:State) (v:AV) (q:List T):Prop:=QV v q \/ ∃ (id:Nat) (g:Bool),v = .rslice id 0 q.length /\ σ.objs id = .cells (flat (tcellL q)) 37 4 g
def QVr (v:AV) (q:List T):Prop:=QV v q \/ v = .slice 4 (tcellL q) .nn
def QsL2 (σ:State) (qs:List AV) (l:List RI):Prop:=qs.length = l.length /\ ∀ k (h:k < l.length),QV2 σ (qs.getD k .undef) l[k].q
def QsLr (qs:List AV) (l:List RI):Prop:=qs.length = l.length /\ ∀ k (h:k < l.length),QVr (qs.getD k .undef) l[k].q
theorem QsL2.tail {σ:State} {v:AV} {qs:List AV} {x:RI} {l:List RI} (h:QsL2 σ (v :: qs) (x :: l)):QV2 σ v x.q /\ QsL2 σ qs l :=
 ⟨h.2 0 (by simp),by simpa using h.1,fun k hk => h.2 (k + 1) (by simpa using hk)⟩
theorem QsLr.tail {v:AV} {qs:List AV} {x:RI} {l:List RI} (h:QsLr (v :: qs) (x :: l)):QVr v x.q /\ QsLr qs l :=
 ⟨h.2 0 (by simp),by simpa using h.1,fun k hk => h.2 (k + 1) (by simpa using hk)⟩
theorem QsLr.cons {v:AV} {qs:List AV} {x:RI} {l:List RI} (h:QVr v x.q) (k:QsLr qs l):QsLr (v :: qs) (x :: l) :=
 ⟨by simp [k.1],fun i hi => by
  cases i with
  | zero => exact h
  | succ i => exact k.2 i (by simpa using hi)⟩
theorem QsL.two {σ:State} {qs:List AV} {l:List RI} (h:QsL qs l):QsL2 σ qs l:=⟨h.1,fun k hk => .inl (h.2 k hk)⟩

theorem deep_QV2 {σ:State} {v:AV} {q:List T} (hv:QV2 σ v q) (n:Nat) (h:2 * SizeOf.sizeOf q + 2 < n):∃ w,deep Tryz.prog σ n v = some w /\ QVr w q:=by
 obtain ⟨n,rfl⟩:∃ k,n = k + 1:=⟨n - 1,by omega⟩
 rcases hv with (rfl | ⟨rfl,h0⟩) | ⟨id,g,rfl,ho⟩
 ·exact ⟨_,deep_slice (deep_tcellL _ _ q n (by omega)),.inl (.inl rfl)⟩
 ·exact ⟨_,rfl,.inl (.inr ⟨rfl,h0⟩)⟩
 ·refine ⟨_,deep_rslice ho kind37 rfl (by omega) (by rw [flat_tcellL_length]; omega) ?_,.inr rfl⟩
  rw [Nat.zero_mul,List.drop_zero,List.take_of_length_le (by rw [flat_tcellL_length]; exact Nat.le_refl _),chunk_tcL]
  exact deep_tcellL _ _ q n (by omega)
theorem deep_rLq2 (σ:State):∀ {qs:List AV} {l:List RI} (n:Nat),QsL2 σ qs l -> 2 * SizeOf.sizeOf l + 4 < n -> ∃ ws,(rLq qs l).mapM (deep Tryz.prog σ n) = some (rLq ws l) /\ QsLr ws l
 | [],[],n,_,_ => ⟨[],rfl,rfl,fun k hk => by simp at hk⟩
 | [],x :: l,n,h,_ => by have:=h.1; simp at this
 | v :: qs,[],n,h,_ => by have:=h.1; simp at this
 | v :: qs,x :: l,n,h,hn => by
  obtain ⟨h1,h2⟩:=h.tail
  have h3:SizeOf.sizeOf x.q < SizeOf.sizeOf x:=by
   obtain ⟨q,a,b,c⟩:=x
   show SizeOf.sizeOf q < 1 + SizeOf.sizeOf q + _ + _ + _
   omega
  have h4:SizeOf.sizeOf (x :: l) = 1 + SizeOf.sizeOf x + SizeOf.sizeOf l:=rfl
  obtain ⟨ws,e1,e2⟩:=deep_rLq2 σ n h2 (by omega)
  obtain ⟨n,rfl⟩:∃ k,n = k + 2:=⟨n - 2,by omega⟩
  obtain ⟨w,e3,e4⟩:=deep_QV2 h1 (n + 1) (by omega)
  refine ⟨w :: ws,?_,e2.cons e4⟩
  have e5:deep Tryz.prog σ (n + 2) (.agg (rcl v x)) = some (.agg (rcl w x)):=by
   show ((rcl v x).mapM (deep Tryz.prog σ (n + 1))).map AV.agg = _
   unfold rcl
   simp only [List.mapM_cons,List.mapM_nil,e3]
   rfl
  show ((AV.agg (rcl v x)) :: rLq qs l).mapM _ = _
  rw [List.mapM_cons,e5,e1]; rfl
theorem rLq_wk2:∀ {qs:List AV} {l:List RI},QsLr qs l -> WkL (flat (rLq qs l)) (flat (rL l)) /\ (rLq qs l).length = (rL l).length
 | [],[],_ => ⟨.nil,rfl⟩
 | [],x :: l,h => by have:=h.1; simp at this
 | v :: qs,[],h => by have:=h.1; simp at this
 | v :: qs,x :: l,h => by
  obtain ⟨h1,h2⟩:=h.tail
  obtain ⟨k1,k2⟩:=rLq_wk2 h2
  refine ⟨?_,?_⟩
  ·show WkL (flat (.agg (rcl v x) :: rLq qs l)) (flat (.agg (rcells x) :: rL l))
   rw [flat_cons,flat_cons]
   refine WkL.append (.cons ?_ (.refl _)) k1
   rcases h1 with (rfl | ⟨rfl,h1⟩) | rfl
   ·exact .refl _
   ·rw [h1]; exact Wk.nil 4
   ·exact Wk.slice 4 _ _
  ·show (rLq qs l).length + 1 = (rL l).length + 1
   rw [k2]

def RAt2 (σ:State) (v:AV) (m:RM):Prop:=∃ (c:MH) (id:Nat) (g:Bool) (tv:AV) (qs:List AV),v = .agg [.rslice id 0 m.I.length,tv,.int .i64 (m.work:Int),.int .i64 (m.puts:Int)] /\ QsL2 σ qs m.I /\ At c σ /\ c .ins = some (id,.cells (flat (rLq qs m.I)) 164 4 g) /\ RoAt c .turn 3 1 tv (intsV m.turn)
def DAt (σ:State) (v:AV) (m:RM):Prop:=∀ n,2 * SizeOf.sizeOf m.I + 10 < n -> ∃ v',deep Tryz.prog σ n v = some v' /\ Wk v' (rmV m)
theorem RAt.d {σ:State} {v:AV} {m:RM} (h:RAt σ v m):DAt σ v m:=fun n hn => deep_RAt h hn
theorem deep_ints {c:MH} {σ:State} {r:MRole} {tv:AV} {l:List Nat} (hA:At c σ) (ht:RoAt c r 3 1 tv (intsV l)) (n:Nat):∃ v',deep Tryz.prog σ (n + 2) tv = some v' /\ Wk v' (.slice 1 (intsV l) .any):=by
 rcases ht with ⟨rfl,hnil⟩ | ⟨tid,off,k,tg,pre,rfl,htc,hpl,hcl⟩
 ·refine ⟨_,rfl,?_⟩
  rw [hnil]; exact Wk.nil 1
 ·refine ⟨.slice 1 (intsV l) .nn,?_,Wk.slice 1 _ _⟩
  refine deep_rslice (hA.obj htc) kind3 rfl (by omega) (by rw [List.length_append]; omega) ?_
  rw [List.drop_left' hpl,List.take_of_length_le (by omega),chunk_one _ _ (by omega),List.take_of_length_le (by omega),deep_intsV]
theorem RAt2.d {σ:State} {v:AV} {m:RM} (h:RAt2 σ v m):DAt σ v m:=by
 intro n hn
 obtain ⟨n,rfl⟩:∃ k,n = k + 3:=⟨n - 3,by omega⟩
 obtain ⟨c,id,g,tv,qs,rfl,hqs,hA,hi,ht⟩:=h
 obtain ⟨ws,e1,e2⟩:=deep_rLq2 σ (n + 1) hqs (by omega)
 have ha:deep Tryz.prog σ (n + 2) (.rslice id 0 m.I.length) = some (.slice 4 (rLq ws m.I) .nn):=by
  refine deep_rslice (hA.obj hi) kind164 rfl (by omega) (by rw [flat_rLq_len hqs.1]; omega) ?_
  rw [Nat.zero_mul,List.drop_zero,List.take_of_length_le (by rw [flat_rLq_len hqs.1]; omega),chunk_rLq hqs.1,e1]
 have hwk:Wk (.slice 4 (rLq ws m.I) .nn) (.slice 4 (rL m.I) .any):=Wk.sliceL (rLq_wk2 e2).2 (rLq_wk2 e2).1 (rL_sz _) (rL_one _)
 obtain ⟨b',hb,hbw⟩:=deep_ints hA ht n
 refine ⟨.agg [.slice 4 (rLq ws m.I) .nn,b',.int .i64 (m.work:Int),.int .i64 (m.puts:Int)],?_,Wk.agg (.cons hwk (.cons hbw (.refl _)))⟩
 show ([AV.rslice id 0 m.I.length,tv,.int .i64 (m.work:Int),.int .i64 (m.puts:Int)].mapM (deep Tryz.prog σ (n + 2))).map AV.agg = _
 simp only [List.mapM_cons,List.mapM_nil,ha,hb]
 rfl

theorem DAt.agg {σ:State} {v:AV} {m:RM} (h:DAt σ v m):∀ n,2 * SizeOf.sizeOf m.I + 10 < n -> ∃ v',deep Tryz.prog σ n v = some v' /\ Wk v' (rmV m):=h

section
variable {B:Nat} {w0:World} {G:Nat -> AV}
variable (hG:∀ i,NoId (G i))
include hG
theorem pureT {f N:Nat} {args ws:List AV} {Q:AV -> State -> Prop} {σ:State} (ha:∀ x ∈ args,NoId x) (hw:∀ x ∈ ws,NoId x)
  (h:ACalls (EV B w0 G) f args noObj (fun v σ' => ∃ vs vs',v = .tuple vs /\ vs.mapM (deep Tryz.prog σ' N) = some vs' /\ WkL vs' ws)) (hQ:Q (.tuple ws) σ.untok):ACalls (EV B w0 G) f args σ Q:=by
 refine .pureD (N + 1) hG ha h fun v σ' ⟨vs,vs',hv,h1,h2⟩ => ?_
 subst hv
 refine ⟨.tuple vs',_,?_,Wk.tuple h2,.tuple hw,hQ⟩
 show (vs.mapM (deep Tryz.prog σ' N)).map AV.tuple = _
 rw [h1]; rfl
end
end Go.V
/- The reference's Put, over values. -/
namespace Go.V
open Go Go.Proofs

section
variable {B:Nat} {w0:World} {G:Nat -> AV}
end
end Go.V
