import Derived.Test.YtgnjidopnplbbaaGreatDoorR32
/- The reference's Do. -/
set_option maxRecDepth 1000000
set_option linter.unusedVariables false
set_option linter.unusedSimpArgs false
set_option linter.unusedSectionVars false
namespace Go.V
open Go Go.Proofs

theorem next_mem {m:RM} (hW:m.Wf) {x:Nat × T} (h:m.next.2 = some x):chkT x.2 = 0:=by
 unfold RM.next at h
 cases ht:m.turn with
 | nil => rw [ht] at h; cases h
 | cons k r =>
  rw [ht] at h
  dsimp only at h
  cases hq:(m.at k).q with
  | nil => rw [hq] at h; cases h
  | cons t q =>
   rw [hq] at h
   cases h
   exact hW.w.chk k t (by rw [hq]; simp)
theorem do_items {m:RM} (hW:m.Wf) (e:Ev):(m.do e).2.1.length <= 1000000 /\ ∀ x ∈ (m.do e).2.1,x.2.small:=by
 unfold RM.do
 split
 ·exact ⟨Nat.zero_le _,fun x hx => by cases hx⟩
 split
 ·exact ⟨Nat.zero_le _,fun x hx => by cases hx⟩
 split
 ·exact ⟨Nat.zero_le _,fun x hx => by cases hx⟩
 cases h:m.next.2 with
 | none => exact ⟨Nat.zero_le _,fun x hx => by cases hx⟩
 | some x => exact ⟨by show 1 <= 1000000; omega,fun y hy => by
   have:y = x:=by simpa using hy
   subst this; exact chk_small (next_mem hW h)⟩

section
variable {B:Nat} {w0:World} {G:Nat -> AV}
theorem c99s_ok (hG:∀ i,NoId (G i)):ContractOk (EV B w0 G) 99 C99s:=by
 rintro args σ Q ⟨m,rfl,hW,h1,h2⟩
 refine c99_ok hG _ _ _ ⟨m,rfl,hW,?_⟩
 cases h:m.next.2 with
 | none => exact h1 h
 | some x => exact h2 x h
theorem H51_ok (hG:∀ i,NoId (G i)):HOk1 (EV B w0 G) (H51 (EV B w0 G)):=hnd_ok (EV_mixed B w0 G) (contracts_cons (c96_ok hG) (contracts_cons (c97_ok hG) (contracts_cons (c98_ok hG) (contracts_cons (c50_ok hG) (contracts_cons (c99s_ok hG) contracts_nil)))))

theorem c51_ok (hG:∀ i,NoId (G i)):ContractOk (EV B w0 G) 51 C51w:=by
 rintro args σ Q ⟨m,e,lv,rfl,⟨hlv,hW,hb⟩,hQ⟩
 refine ACalls.weaken (args':=[rmV m,.agg [.int .i64 e.k,.int .i64 e.i,.int .i64 e.n,.int .i64 e.t.k,.int .i64 e.t.n,.str e.t.s,.slice 4 (tcellL e.t.l) .any]]) ?_ ?_
 ·refine .cons (.refl _) (.cons (Wk.agg (.cons (.refl _) (.cons (.refl _) (.cons (.refl _) (.cons (.refl _) (.cons (.refl _) (.cons (.refl _) (.cons ?_ .nil)))))))) .nil)
  rcases hlv with rfl | ⟨rfl,h0⟩
  ·exact .refl _
  ·rw [h0]; exact Wk.nil 4
 refine pureT hG (N:=2 * SizeOf.sizeOf (m.doR e).1.I + 2 * SizeOf.sizeOf (m.doR e).2.1 + 20) (fun y hy => ?_) (fun y hy => ?_) ?_ hQ
 ·simp only [List.mem_cons,List.not_mem_nil,or_false] at hy
  rcases hy with rfl | rfl
  ·exact rmV_noId m
  ·exact ev_noId e
 ·simp only [List.mem_cons,List.not_mem_nil,or_false] at hy
  rcases hy with rfl | rfl | rfl
  ·exact rmV_noId _
  ·exact itemsV_noId _
  ·exact .int _ _
 -- what is returned
 have fin0:∀ {σ':State} {m':RM} {err:Int},m.doR e = (m',[],err) -> ∃ vs vs',AV.tuple [rmV m',.nilslice,.int .i64 err] = .tuple vs /\ vs.mapM (deep Tryz.prog σ' (2 * SizeOf.sizeOf (m.doR e).1.I + 2 * SizeOf.sizeOf (m.doR e).2.1 + 20)) = some vs' /\
   WkL vs' [rmV (m.doR e).1,.slice 5 (itemsV (m.doR e).2.1) .any,.int .i64 (m.doR e).2.2]:=fun {σ' m' err} h => by
  rw [h]
  obtain ⟨v1,a1,a2⟩:=deep_RAt (σ:=σ') (v:=rmV m') (m:=m') (.inl rfl) (n:=2 * SizeOf.sizeOf m'.I + 2 * SizeOf.sizeOf ([]:List (Nat × T)) + 20) (by omega)
  refine ⟨_,[v1,.nilslice,.int .i64 err],rfl,?_,.cons a2 (.cons (Wk.nil 5) (.refl _))⟩
  simp only [List.mapM_cons,List.mapM_nil,a1]
  rfl
 have fin1:∀ {σ':State} {m':RM} {x:Nat × T} {c:Cap},m.doR e = (m',[x],0) -> ∃ vs vs',AV.tuple [rmV m',.slice 5 [itemC x] c,.int .i64 0] = .tuple vs /\ vs.mapM (deep Tryz.prog σ' (2 * SizeOf.sizeOf (m.doR e).1.I + 2 * SizeOf.sizeOf (m.doR e).2.1 + 20)) = some vs' /\
   WkL vs' [rmV (m.doR e).1,.slice 5 (itemsV (m.doR e).2.1) .any,.int .i64 (m.doR e).2.2]:=fun {σ' m' x c} h => by
  rw [h]
  dsimp only
  have hs:=pair_size x
  have hs2:SizeOf.sizeOf [x] = 1 + SizeOf.sizeOf x + 1:=rfl
  have hs3:=T.sizeOf_l x.2
  obtain ⟨v1,a1,a2⟩:=deep_RAt (σ:=σ') (v:=rmV m') (m:=m') (.inl rfl) (n:=2 * SizeOf.sizeOf m'.I + 2 * SizeOf.sizeOf [x] + 20) (by omega)
  have hd:deep Tryz.prog σ' (2 * SizeOf.sizeOf m'.I + 2 * SizeOf.sizeOf [x] + 20) (.slice 5 [itemC x] c) = some (.slice 5 [itemC x] (nnCap c)) :=
   deep_slice (n:=2 * SizeOf.sizeOf m'.I + 2 * SizeOf.sizeOf [x] + 19) (by rw [mapM_some]; intro y hy; simp only [List.mem_cons,List.not_mem_nil,or_false] at hy; subst hy; exact deep_itemC _ _ x _ (by omega))
  refine ⟨_,[v1,.slice 5 [itemC x] (nnCap c),.int .i64 0],rfl,?_,.cons a2 (.cons (Wk.slice 5 _ _) (.refl _))⟩
  simp only [List.mapM_cons,List.mapM_nil,a1,hd]
  rfl
 refine bodyC_ok (EV_mixed B w0 G) (H51_ok hG) (fun l hl _ Q a σ k => k.elim) ((vc51 B w0 G m e _).mpr ⟨e,rfl,bcase_of (fun h => ?_) (fun h => ?_)⟩)
 ·have h:isEv e = false:=by simpa using h
  exact fin0 (by unfold RM.doR; rw [h]; rfl)
 have h:isEv e = true:=by simpa using h
 have hdo:m.doR e = m.do e:=by unfold RM.doR; rw [if_pos h]
 refine bcase_of (fun h1 => ?_) (fun h1 => bcase_of (fun h2 => ?_) (fun h2 => bcase_of (fun h3 => ?_) (fun h3 => ?_)))
 ·have h1:e.k = 1:=by simpa using h1
  exact ⟨m,e.i,e.t,rfl,⟨hW,hb⟩,fin0 (by rw [hdo]; unfold RM.do; rw [if_pos h1])⟩
 ·have h1:¬ e.k = 1:=by simpa using h1
  have h2:e.k = 2:=by simpa using h2
  exact ⟨m,e.i,rfl,hW,fin0 (by rw [hdo]; unfold RM.do; rw [if_neg h1,if_pos h2])⟩
 ·have h1:¬ e.k = 1:=by simpa using h1
  have h2:¬ e.k = 2:=by simpa using h2
  have h3:e.k = 3:=by simpa using h3
  exact ⟨m,e.i,e.n,rfl,hW,fin0 (by rw [hdo]; unfold RM.do; rw [if_neg h1,if_neg h2,if_pos h3])⟩
 ·have h1:¬ e.k = 1:=by simpa using h1
  have h2:¬ e.k = 2:=by simpa using h2
  have h3:¬ e.k = 3:=by simpa using h3
  have hd:m.do e = (m.next.1,m.next.2.toList,0):=by unfold RM.do; rw [if_neg h1,if_neg h2,if_neg h3]
  refine ⟨m,rfl,hW,fun hn => ?_,fun x hx => ⟨rfl,rfl,?_⟩⟩
  ·exact fin0 (by rw [hdo,hd,hn]; rfl)
  ·exact fin1 (by rw [hdo,hd,hx]; rfl)

end
end Go.V
