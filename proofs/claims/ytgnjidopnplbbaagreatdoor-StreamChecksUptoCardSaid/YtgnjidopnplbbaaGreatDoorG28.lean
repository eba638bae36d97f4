import Derived.Test.YtgnjidopnplbbaaGreatDoorG27
/- The reference's mergers become values again; Close. -/
set_option maxRecDepth 1000000
set_option linter.unusedVariables false
set_option linter.unusedSimpArgs false
set_option linter.unusedSectionVars false
namespace Go.V
open Go Go.Proofs

theorem mapM_some {f:AV -> Option AV}:∀ {l:List AV},(∀ x ∈ l,f x = some x) -> l.mapM f = some l
 | [],_ => rfl
 | x :: l,h => by
  rw [List.mapM_cons,h x (List.mem_cons_self ..),mapM_some fun y hy => h y (List.mem_cons_of_mem _ hy)]; rfl
theorem deep_rcells (P:Program) (σ:State) (x:RI) (n:Nat) (h:2 * SizeOf.sizeOf x.q + 4 < n):deep P σ n (.agg (rcells x)) = some (.agg (rcells x)):=by
 obtain ⟨n,rfl⟩:∃ k,n = k + 3:=⟨n - 3,by omega⟩
 show ((rcells x).mapM (deep P σ (n + 2))).map AV.agg = _
 rw [mapM_some]
 ·rfl
 ·intro y hy
  unfold rcells at hy
  simp only [List.mem_cons,List.not_mem_nil,or_false] at hy
  rcases hy with rfl | rfl | rfl | rfl
  ·show ((tcellL x.q).mapM (deep P σ (n + 1))).map _ = _
   rw [deep_tcellL P σ x.q (n + 1) (by omega)]; rfl
  ·rfl
  ·rfl
  ·rfl
theorem deep_rL (P:Program) (σ:State) (l:List RI) (n:Nat) (h:2 * SizeOf.sizeOf l + 4 < n):(rL l).mapM (deep P σ n) = some (rL l):=by
 refine mapM_some fun y hy => ?_
 unfold rL at hy
 obtain ⟨x,hx,rfl⟩:=List.mem_map.1 hy
 have h1:=List.sizeOf_lt_of_mem hx
 have h2:SizeOf.sizeOf x.q < SizeOf.sizeOf x:=by
  obtain ⟨q,a,b,c⟩:=x
  show SizeOf.sizeOf q < 1 + SizeOf.sizeOf q + _ + _ + _
  omega
 exact deep_rcells P σ x n (by omega)
theorem deep_intsV (P:Program) (σ:State) (l:List Nat) (n:Nat):(intsV l).mapM (deep P σ (n + 1)) = some (intsV l):=by
 refine mapM_some fun y hy => ?_
 unfold intsV at hy
 obtain ⟨x,hx,rfl⟩:=List.mem_map.1 hy
 rfl
theorem Wk.sliceL {sz:Nat} {xs ys:List AV} {m:Cap} (hl:xs.length = ys.length) (hw:WkL (flat xs) (flat ys)) (hsz:∀ y ∈ ys,y.cells.length = sz) (h1:(flat ys).all AV.one = true):Wk (.slice sz xs m) (.slice sz ys .any):=by
 intro g u h
 rcases h.slice_inv with ⟨a,cap,vs,rfl,hv⟩ | ⟨rfl,rfl,rfl⟩
 ·have:=SliceV.rv (g:=g) (sz:=sz) (xs:=ys) (m:=.any) (a:=a) (cap:=cap) (vs:=vs) ⟨hsz,hw.rv hv.hr,hv.hsp,hv.hF,h1,by rw [<-hl]; exact hv.hcap,trivial⟩
  rw [hl]; exact this
 ·have:ys = []:=List.length_eq_zero_iff.1 (by rw [<-hl]; rfl)
  subst this
  exact .nilany sz
theorem WkL.append {a b c d:List AV} (h:WkL a b) (k:WkL c d):WkL (a ++ c) (b ++ d):=by
 induction h with
 | nil => exact k
 | cons h hs ih => exact .cons h ih
def QsL (qs:List AV) (l:List RI):Prop:=qs.length = l.length /\ ∀ k (h:k < l.length),QV (qs.getD k .undef) l[k].q
theorem QsL.tail {v:AV} {qs:List AV} {x:RI} {l:List RI} (h:QsL (v :: qs) (x :: l)):QV v x.q /\ QsL qs l :=
 ⟨h.2 0 (by simp),by simpa using h.1,fun k hk => h.2 (k + 1) (by simpa using hk)⟩
theorem deep_rcl (P:Program) (σ:State) {v:AV} {x:RI} (hv:QV v x.q) (n:Nat) (h:2 * SizeOf.sizeOf x.q + 4 < n):deep P σ n (.agg (rcl v x)) = some (.agg (rcl v x)):=by
 obtain ⟨n,rfl⟩:∃ k,n = k + 3:=⟨n - 3,by omega⟩
 show ((rcl v x).mapM (deep P σ (n + 2))).map AV.agg = _
 rw [mapM_some]
 ·rfl
 ·intro y hy
  unfold rcl at hy
  simp only [List.mem_cons,List.not_mem_nil,or_false] at hy
  rcases hy with rfl | rfl | rfl | rfl
  ·rcases hv with rfl | ⟨rfl,_⟩
   ·show ((tcellL x.q).mapM (deep P σ (n + 1))).map _ = _
    rw [deep_tcellL P σ x.q (n + 1) (by omega)]; rfl
   ·rfl
  ·rfl
  ·rfl
  ·rfl
theorem deep_rLq (P:Program) (σ:State):∀ {qs:List AV} {l:List RI} (n:Nat),QsL qs l -> 2 * SizeOf.sizeOf l + 4 < n -> (rLq qs l).mapM (deep P σ n) = some (rLq qs l)
 | [],[],n,_,_ => rfl
 | [],x :: l,n,h,_ => by have:=h.1; simp at this
 | v :: qs,[],n,h,_ => by have:=h.1; simp at this
 | v :: qs,x :: l,n,h,hn => by
  obtain ⟨h1,h2⟩:=h.tail
  have h3:SizeOf.sizeOf x.q < SizeOf.sizeOf x:=by
   obtain ⟨q,a,b,c⟩:=x
   show SizeOf.sizeOf q < 1 + SizeOf.sizeOf q + _ + _ + _
   omega
  have h4:SizeOf.sizeOf (x :: l) = 1 + SizeOf.sizeOf x + SizeOf.sizeOf l:=rfl
  show ((AV.agg (rcl v x)) :: rLq qs l).mapM _ = _
  rw [List.mapM_cons,deep_rcl P σ h1 n (by omega),deep_rLq P σ n h2 (by omega)]; rfl
theorem chunk_rLq:∀ {qs:List AV} {l:List RI},qs.length = l.length -> chunk (some 4) (flat (rLq qs l)) l.length = rLq qs l
 | [],[],_ => rfl
 | [],x :: l,h => by simp at h
 | v :: qs,[],h => by simp at h
 | v :: qs,x :: l,h => by
  show chunk (some 4) (flat (.agg (rcl v x) :: rLq qs l)) (l.length + 1) = _
  rw [flat_cons]
  show AV.agg (((rcl v x) ++ flat (rLq qs l)).take 4) :: chunk (some 4) (((rcl v x) ++ flat (rLq qs l)).drop 4) l.length = _
  rw [List.take_left' (by rfl),List.drop_left' (by rfl),chunk_rLq (by simpa using h)]; rfl
theorem rLq_wk:∀ {qs:List AV} {l:List RI},QsL qs l -> WkL (flat (rLq qs l)) (flat (rL l)) /\ (rLq qs l).length = (rL l).length
 | [],[],_ => ⟨.nil,rfl⟩
 | [],x :: l,h => by have:=h.1; simp at this
 | v :: qs,[],h => by have:=h.1; simp at this
 | v :: qs,x :: l,h => by
  obtain ⟨h1,h2⟩:=h.tail
  obtain ⟨k1,k2⟩:=rLq_wk h2
  refine ⟨?_,?_⟩
  ·show WkL (flat (.agg (rcl v x) :: rLq qs l)) (flat (.agg (rcells x) :: rL l))
   rw [flat_cons,flat_cons]
   refine WkL.append (.cons ?_ (.refl _)) k1
   rcases h1 with rfl | ⟨rfl,h1⟩
   ·exact .refl _
   ·rw [h1]; exact Wk.nil 4
  ·show (rLq qs l).length + 1 = (rL l).length + 1
   rw [k2]
theorem rL_sz (l:List RI):∀ y ∈ rL l,y.cells.length = 4:=fun y hy => by
 unfold rL at hy
 obtain ⟨x,_,rfl⟩:=List.mem_map.1 hy
 rfl
theorem rL_one (l:List RI):(flat (rL l)).all AV.one = true:=by
 induction l with
 | nil => rfl
 | cons x l ih =>
  show (flat (.agg (rcells x) :: rL l)).all AV.one = true
  rw [flat_cons,List.all_append,ih]
  rfl
theorem kind164:kindT Tryz.prog 164 = some (some 4):=by kernel_rfl
theorem kind3:kindT Tryz.prog 3 = some none:=by kernel_rfl

def rmV (m:RM):AV:=.agg [.slice 4 (rL m.I) .any,.slice 1 (intsV m.turn) .any,.int .i64 (m.work:Int),.int .i64 (m.puts:Int)]
def RAt (σ:State) (v:AV) (m:RM):Prop:=v = rmV m \/ ∃ (c:MH) (id:Nat) (g:Bool) (tv:AV) (qs:List AV),v = .agg [.rslice id 0 m.I.length,tv,.int .i64 (m.work:Int),.int .i64 (m.puts:Int)] /\ QsL qs m.I /\ At c σ /\ c .ins = some (id,.cells (flat (rLq qs m.I)) 164 4 g) /\ RoAt c .turn 3 1 tv (intsV m.turn)

theorem deep_slice {P:Program} {σ:State} {sz:Nat} {xs ys:List AV} {m:Cap} {n:Nat} (h:xs.mapM (deep P σ n) = some ys):deep P σ (n + 1) (.slice sz xs m) = some (.slice sz ys (nnCap m)):=by
 show (xs.mapM (deep P σ n)).map _ = _
 rw [h]; rfl
theorem deep_rslice {P:Program} {σ:State} {n id off len e sz:Nat} {cs ys:List AV} {g:Bool} {k:Option Nat} (ho:σ.objs id = .cells cs e sz g) (hk:kindT P e = some k) (h1:k.getD 1 = sz) (h2:0 < sz) (h3:(off + len) * sz <= cs.length)
  (hm:(chunk k ((cs.drop (off * sz)).take (len * sz)) len).mapM (deep P σ n) = some ys):deep P σ (n + 1) (.rslice id off len) = some (.slice sz ys .nn):=by
 subst h1
 have hle:Nat.ble ((off + len) * k.getD 1) cs.length = true:=Nat.ble_eq_true_of_le h3
 have hlt:Nat.blt 0 (k.getD 1) = true:=Nat.ble_eq_true_of_le h2
 have hbq:Nat.beq (k.getD 1) (k.getD 1) = true:=Nat.beq_refl _
 simp only [deep,ho,hk,hle,hlt,hbq,Bool.and_self]
 rw [hm]; rfl
theorem deep_RAt {σ:State} {v:AV} {m:RM} (h:RAt σ v m) {n:Nat} (hn:2 * SizeOf.sizeOf m.I + 10 < n):∃ v',deep Tryz.prog σ n v = some v' /\ Wk v' (rmV m):=by
 obtain ⟨n,rfl⟩:∃ k,n = k + 3:=⟨n - 3,by omega⟩
 have hI:=deep_rL Tryz.prog σ m.I (n + 1) (by omega)
 have hT:=deep_intsV Tryz.prog σ m.turn n
 have done:∀ (a b a' b':AV),deep Tryz.prog σ (n + 2) a = some a' -> deep Tryz.prog σ (n + 2) b = some b' -> deep Tryz.prog σ (n + 3) (.agg [a,b,.int .i64 (m.work:Int),.int .i64 (m.puts:Int)]) = some (.agg [a',b',.int .i64 (m.work:Int),.int .i64 (m.puts:Int)]):=fun a b a' b' h1 h2 => by
  show ([a,b,.int .i64 (m.work:Int),.int .i64 (m.puts:Int)].mapM (deep Tryz.prog σ (n + 2))).map AV.agg = _
  simp only [List.mapM_cons,List.mapM_nil,h1,h2]
  rfl
 rcases h with rfl | ⟨c,id,g,tv,qs,rfl,hqs,hA,hi,ht⟩
 ·exact ⟨_,done _ _ _ _ (deep_slice hI) (deep_slice hT),Wk.refl _⟩
 ·have ha:deep Tryz.prog σ (n + 2) (.rslice id 0 m.I.length) = some (.slice 4 (rLq qs m.I) .nn):=by
   refine deep_rslice (hA.obj hi) kind164 rfl (by omega) (by rw [flat_rLq_len hqs.1]; omega) ?_
   rw [Nat.zero_mul,List.drop_zero,List.take_of_length_le (by rw [flat_rLq_len hqs.1]; omega),chunk_rLq hqs.1,deep_rLq Tryz.prog σ (n + 1) hqs (by omega)]
  have hwk:Wk (.slice 4 (rLq qs m.I) .nn) (.slice 4 (rL m.I) .any):=Wk.sliceL (rLq_wk hqs).2 (rLq_wk hqs).1 (rL_sz _) (rL_one _)
  rcases ht with ⟨rfl,hnil⟩ | ⟨tid,off,k,tg,pre,rfl,htc,hpl,hcl⟩
  ·refine ⟨_,done _ _ _ _ ha rfl,Wk.agg (.cons hwk (.cons ?_ (.refl _)))⟩
   rw [hnil]; exact Wk.nil 1
  ·have hb:deep Tryz.prog σ (n + 2) (.rslice tid off k) = some (.slice 1 (intsV m.turn) .nn):=by
    refine deep_rslice (hA.obj htc) kind3 rfl (by omega) (by rw [List.length_append]; omega) ?_
    rw [List.drop_left' hpl,List.take_of_length_le (by omega),chunk_one _ _ (by omega),List.take_of_length_le (by omega),hT]
   exact ⟨_,done _ _ _ _ ha hb,Wk.agg (.cons hwk (.cons (Wk.slice 1 _ _) (.refl _)))⟩
theorem intsV_noId (l:List Nat):∀ y ∈ flat (intsV l),NoId y:=by
 induction l with
 | nil => intro y hy; cases hy
 | cons x l ih =>
  intro y hy
  have hy:y ∈ flat (.int .i64 (x:Int) :: intsV l):=hy
  rw [flat_cons] at hy
  rcases List.mem_append.1 hy with hy | hy
  ·have hy:y ∈ [AV.int .i64 (x:Int)]:=hy
   simp only [List.mem_cons,List.not_mem_nil,or_false] at hy
   subst hy; exact .int _ _
  ·exact ih y hy
end Go.V
/- Conditions: the reference's Close, Split. -/
namespace Go.V
open Go Go.Proofs

end Go.V
/- The reference's Close. -/
namespace Go.V
open Go Go.Proofs

theorem fresh_len (m:RM):m.fresh.I.length = m.I.length:=mj_len m _
theorem QsOk.l {qs:List AV} {m:RM} (h:QsOk qs m):QsL qs m.I:=⟨h.len,fun k hk => by rw [at_get hk]; exact h.ok k hk⟩
theorem QsOk.fresh {qs:List AV} {m:RM} (h:QsOk qs m):QsL qs m.fresh.I:=⟨h.len.trans (fresh_len m).symm,fun k hk => by
 have hk':k < m.I.length:=by rw [fresh_len] at hk; exact hk
 rw [at_get hk]
 have e:(m.fresh.at k).q = (m.at k).q:=(mj_q m m.I.length k).1
 rw [e]; exact h.ok k hk'⟩
theorem RAt.fresh {σ:State} {c:MH} {id:Nat} {g:Bool} {tv:AV} {qs:List AV} {m:RM} (hqs:QsOk qs m) (hA:At c σ) (hi:c .ins = some (id,.cells (flat (rLq qs m.fresh.I)) 164 4 g)) (ht:RoAt c .turn 3 1 tv (intsV m.fresh.turn)) :
  RAt σ (.agg [.rslice id 0 m.I.length,tv,.int .i64 (m.work:Int),.int .i64 (m.puts:Int)]) m.fresh:=by
 refine .inr ⟨c,id,g,tv,qs,?_,hqs.fresh,hA,hi,ht⟩
 obtain ⟨h1,h2⟩:=fresh_work m
 rw [fresh_len,h1,h2]
theorem RoAt.one {c:MH} {r:MRole} {e sz:Nat} {v:AV} {cs:List AV} (h:RoAt c r e sz v cs):v.one = true:=by
 rcases h with ⟨rfl,_⟩ | ⟨_,_,_,_,_,rfl,_⟩ <;> rfl

section
variable {B:Nat} {w0:World} {G:Nat -> AV}
variable (hG:∀ i,NoId (G i))
include hG
end
end Go.V
/- Conditions: the reference's Next. -/
namespace Go.V
open Go Go.Proofs

end Go.V
/- The reference's Next, over values. -/
namespace Go.V
open Go Go.Proofs

section
variable {B:Nat} {w0:World} {G:Nat -> AV}
variable (hG:∀ i,NoId (G i))
include hG
end
end Go.V
