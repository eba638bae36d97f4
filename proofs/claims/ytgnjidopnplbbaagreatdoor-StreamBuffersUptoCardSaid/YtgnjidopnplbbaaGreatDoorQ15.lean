import Derived.Test.YtgnjidopnplbbaaGreatDoorQ14
/- Buffers: what a buffer is, in a state of objects; a method shown on its own objects holds beside all others. -/
set_option maxRecDepth 1000000
set_option linter.unusedVariables false
set_option linter.unusedSimpArgs false
set_option linter.unusedSectionVars false
namespace Go.V
open Go Go.Proofs

/-- What a buffer is: its room, how many items came and were dealt, how many requests came, and the items that lie. -/
structure BS where
  room : Int
  came : Nat
  deal : Nat
  asked : Nat
  pend : List T

structure BS.wf (s : BS) : Prop where
  came : s.came ≤ 20000
  asked : s.asked ≤ 20000
  deal : s.deal ≤ s.asked
  pend : s.deal + s.pend.length = s.came
  small : ∀ t ∈ s.pend, t.small

def bufO (s : BS) (q : AV) (fr : Nat) : AObj := .cells [.int .i64 s.room, .int .i64 s.came, .int .i64 s.deal, .int .i64 s.asked, q, .int .i64 fr] 129 6 false
def rowO (pre : List AV) (pend : List T) : AObj := .cells (pre ++ flat (tcellL pend)) 37 4 true

/-- The queue of a buffer: where its row lies (none: there is no row). -/
inductive QAt (σ : State) (b : Nat) (s : BS) : Option Nat → AV → Nat → Prop where
  | nil (h : s.pend = []) : QAt σ b s none .nilslice 0
  | row (r : Nat) (pre : List AV) (fr : Nat) (hb : r ≠ b) (hr : r < σ.next) (ho : σ.objs r = rowO pre s.pend) (hp : pre.length = fr * 4) (hl : fr + s.pend.length ≤ s.came)
      (hn : ∀ x ∈ pre, NoId x) (h1 : pre.all AV.one = true) : QAt σ b s (some r) (.rslice r 0 (fr + s.pend.length)) fr

/-- A buffer lies in a state. -/
def BufAt (σ : State) (b : Nat) (r : Option Nat) (s : BS) : Prop := b < σ.next ∧ ∃ q fr, σ.objs b = bufO s q fr ∧ QAt σ b s r q fr

theorem flat_one (l : List T) : (flat (tcellL l)).all AV.one = true := by
  induction l with
  | nil => rfl
  | cons t l ih =>
    rw [tcellL, flat_cons, List.all_append, ih, tcell_eq]
    rfl
theorem rowO_noId {pre : List AV} {pend : List T} (h : ∀ x ∈ pre, NoId x) : ∀ x ∈ pre ++ flat (tcellL pend), NoId x := fun x hx => by
  rcases List.mem_append.1 hx with hx | hx
  · exact h x hx
  · exact (tcellL_noId pend).2 x hx

/-- What a method leaves of other objects. -/
structure Keeps (σ σ' : State) (b : Nat) (r r' : Option Nat) : Prop where
  next : σ.next ≤ σ'.next
  objs : ∀ j, j < σ.next → j ≠ b → some j ≠ r → σ'.objs j = σ.untok.objs j
  row : ∀ j, r' = some j → r = some j ∨ σ.next ≤ j

/-- On its own objects alone. -/
def aloneN (s : BS) : State := lst [bufO s .nilslice 0] 1
def aloneR (s : BS) (pre : List AV) (fr : Nat) : State := lst [bufO s (.rslice 1 0 (fr + s.pend.length)) fr, rowO pre s.pend] 2

theorem buf_frame {E : Env} {f b : Nat} {r : Option Nat} {rest : List AV} {σ : State} {s : BS} {P : AV → BS → Prop} {Q : AV → State → Prop} (hG : ∀ i, NoId (E.G i)) (hrest : ∀ x ∈ rest, NoId x) (hb : BufAt σ b r s)
    (hA : s.pend = [] → ACalls E f (.ptr 0 0 :: rest) (aloneN s) (fun v σ' => ∃ s' r', P v s' ∧ NoId v ∧ BufAt σ' 0 r' s'))
    (hB : ∀ pre fr, pre.length = fr * 4 → fr + s.pend.length ≤ s.came → (∀ x ∈ pre, NoId x) → pre.all AV.one = true → ACalls E f (.ptr 0 0 :: rest) (aloneR s pre fr) (fun v σ' => ∃ s' r', P v s' ∧ NoId v ∧ BufAt σ' 0 r' s'))
    (hQ : ∀ v s' r' σ', P v s' → BufAt σ' b r' s' → Keeps σ σ' b r r' → Q v σ') : ACalls E f (.ptr b 0 :: rest) σ Q := by
  obtain ⟨hbn, q, fr, ho, hq⟩ := hb
  -- the objects behind, beside all others
  have fin : ∀ (k : Nat) (ρ : Nat → Nat), 0 < k → ρ 0 = b → (∀ i, i < k → i ≠ 0 → some (ρ i) = r) → (∀ j, some j = r → ∃ i, i < k ∧ i ≠ 0 ∧ ρ i = j) → (∀ i, i < k → ρ i < σ.next) → (∀ i j, i < k → j < k → ρ i = ρ j → i = j) →
      ∀ v σs', (∃ s' r', P v s' ∧ NoId v ∧ BufAt σs' 0 r' s') → ∃ v' σ', RenP (fun i j => j = outNo k ρ σ.next i) v v' ∧ Beside k ρ σ σs' σ' ∧ Q v' σ' := by
    intro k ρ hk hρ0 hρ1 hρ2 hρn hinj v σs' ⟨s', r', hP, hv, hbs⟩
    obtain ⟨hbn', q', fr', ho', hq'⟩ := hbs
    have o0 : outNo k ρ σ.next 0 = b := by unfold outNo; rw [if_pos hk, hρ0]
    have oinj : ∀ i j, outNo k ρ σ.next i = outNo k ρ σ.next j → i = j := by
      intro i j h
      unfold outNo at h
      split at h
      · rename_i hi
        split at h
        · rename_i hj; exact hinj i j hi hj h
        · have := hρn i hi; omega
      · split at h
        · rename_i hj; have := hρn j hj; omega
        · omega
    have olt : ∀ i, i < σs'.next → outNo k ρ σ.next i < σ.next + (σs'.next - k) := by
      intro i hi
      unfold outNo
      split
      · rename_i h; have := hρn i h; omega
      · omega
    -- the new state
    have make : ∀ (q2 : AV) (r2 : Option Nat) (row : AObj), (∀ j, r2 = some j → j ≠ b ∧ (some j = r ∨ σ.next ≤ j)) →
        ∃ σ' : State, σ'.next = σ.next + (σs'.next - k) ∧ σ'.objs b = bufO s' q2 fr' ∧ (∀ j, r2 = some j → σ'.objs j = row) ∧ (∀ j, j ≠ b → r2 ≠ some j → some j = r → σ'.objs j = .dead) ∧
          (∀ j, j ≠ b → r2 ≠ some j → some j ≠ r → j < σ.next → σ'.objs j = σ.untok.objs j) ∧ (∀ j, j ≠ b → r2 ≠ some j → some j ≠ r → σ.next ≤ j → σ'.objs j = .dead) := by
      intro q2 r2 row hr2
      refine ⟨⟨fun j => if j = b then bufO s' q2 fr' else if r2 = some j then row else if some j = r then .dead else if j < σ.next then σ.untok.objs j else .dead, σ.next + (σs'.next - k)⟩, rfl, if_pos rfl, fun j hj => ?_, fun j h1 h2 h3 => ?_, fun j h1 h2 h3 h4 => ?_, fun j h1 h2 h3 h4 => ?_⟩
      · dsimp only; rw [if_neg (hr2 j hj).1, if_pos hj]
      · dsimp only; rw [if_neg h1, if_neg h2, if_pos h3]
      · dsimp only; rw [if_neg h1, if_neg h2, if_neg h3, if_pos h4]
      · dsimp only; rw [if_neg h1, if_neg h2, if_neg h3, if_neg (by omega)]
    have img : ∀ i, i ≠ 0 → outNo k ρ σ.next i ≠ b ∧ (some (outNo k ρ σ.next i) = r ∨ σ.next ≤ outNo k ρ σ.next i) := by
      intro i hi
      refine ⟨fun e => hi (oinj i 0 (by rw [e, o0])), ?_⟩
      unfold outNo
      split
      · rename_i h; exact .inl (hρ1 i h hi)
      · exact .inr (by omega)
    cases hq' with
    | nil hp =>
      obtain ⟨σ', h1, h2, h3, h4, h5, h6⟩ := make .nilslice none .dead (fun j h => by cases h)
      refine ⟨v, σ', .noId hv, ⟨h1, fun i hi => ?_, fun j hj hne => ?_, fun j hj => ?_⟩, hQ v s' none σ' hP ⟨by omega, _, _, h2, .nil hp⟩ ⟨by omega, fun j hj hjb hjr => h5 j hjb (by simp) hjr hj, fun j h => by cases h⟩⟩
      · by_cases hi0 : i = 0
        · subst hi0
          rw [o0, h2, ho']
          refine .inr ⟨by simp [bufO], .cells (RenL.noId fun x hx => ?_) (by rfl)⟩
          simp only [List.mem_cons, List.not_mem_nil, or_false] at hx
          rcases hx with rfl | rfl | rfl | rfl | rfl | rfl
          · exact .int _ _
          · exact .int _ _
          · exact .int _ _
          · exact .int _ _
          · exact .nilslice
          · exact .int _ _
        · obtain ⟨k1, k2⟩ := img i hi0
          by_cases e : some (outNo k ρ σ.next i) = r
          · exact .inl (h4 _ k1 (by simp) e)
          · exact .inl (h6 _ k1 (by simp) e (k2.resolve_left e))
      · refine .inl (h5 j (by rw [← hρ0]; exact hne 0 hk) (by simp) (fun e => ?_) hj)
        obtain ⟨i, hi, _, hij⟩ := hρ2 j e
        exact hne i hi hij.symm
      · by_cases hjb : j = b
        · omega
        · by_cases e : some j = r
          · exact h4 j hjb (by simp) e
          · exact h6 j hjb (by simp) e (by omega)
    | row r0 pre fr0 hb0 hr0 hro hp hl hn hone =>
      obtain ⟨k1, k2⟩ := img r0 hb0
      obtain ⟨σ', h1, h2, h3, h4, h5, h6⟩ := make (.rslice (outNo k ρ σ.next r0) 0 (fr' + s'.pend.length)) (some (outNo k ρ σ.next r0)) (rowO pre s'.pend) (fun j h => by cases h; exact ⟨k1, k2⟩)
      have hrow := h3 _ rfl
      refine ⟨v, σ', .noId hv, ⟨h1, fun i hi => ?_, fun j hj hne => ?_, fun j hj => ?_⟩, hQ v s' (some (outNo k ρ σ.next r0)) σ' hP ⟨by omega, _, _, h2, .row _ pre fr' k1 (by rw [h1]; exact olt r0 hr0) hrow hp hl hn hone⟩ ⟨by omega, fun j hj hjb hjr => h5 j hjb (fun e => ?_) hjr hj, fun j h => by cases h; rcases k2 with k2 | k2; exact .inl k2.symm; exact .inr k2⟩⟩
      · by_cases hi0 : i = 0
        · subst hi0
          rw [o0, h2, ho']
          refine .inr ⟨by simp [bufO], .cells (.cons (.noId (.int _ _)) (.cons (.noId (.int _ _)) (.cons (.noId (.int _ _)) (.cons (.noId (.int _ _)) (.cons (RenP.rslice (R := fun i j => j = outNo k ρ σ.next i) (i := r0) (j := outNo k ρ σ.next r0) rfl 0 _) (.cons (.noId (.int _ _)) .nil)))))) (by rfl)⟩
        · by_cases hir : i = r0
          · subst hir
            rw [hrow, hro]
            refine .inr ⟨by simp [rowO], .cells (RenL.noId (rowO_noId hn)) ?_⟩
            rw [List.all_append, hone, flat_one]; rfl
          · obtain ⟨m1, m2⟩ := img i hi0
            have hne : some (outNo k ρ σ.next r0) ≠ some (outNo k ρ σ.next i) := fun e => hir (oinj i r0 (Option.some.inj e).symm)
            by_cases e : some (outNo k ρ σ.next i) = r
            · exact .inl (h4 _ m1 hne e)
            · exact .inl (h6 _ m1 hne e (m2.resolve_left e))
      · have hjb : j ≠ b := by rw [← hρ0]; exact hne 0 hk
        have hjr : some j ≠ r := fun e => by
          obtain ⟨i, hi, _, hij⟩ := hρ2 j e
          exact hne i hi hij.symm
        refine .inl (h5 j hjb (fun e => ?_) hjr hj)
        have e' := Option.some.inj e
        rcases k2 with k2 | k2
        · exact hjr (by rw [← e']; exact k2)
        · omega
      · by_cases hjb : j = b
        · omega
        · have hne : some (outNo k ρ σ.next r0) ≠ some j := fun e => by
            have := olt r0 hr0
            have := Option.some.inj e
            omega
          by_cases e : some j = r
          · exact h4 j hjb hne e
          · exact h6 j hjb hne e (by omega)
      · have e' := Option.some.inj e
        rcases k2 with k2 | k2
        · exact hjr (by rw [← e']; exact k2)
        · omega
  cases hq with
  | nil hp =>
    refine ACalls.frame (k := 1) (ρ := fun _ => b) hG ⟨rfl, fun i j hi hj _ => by omega, fun i hi => ?_, fun i hi => ?_, fun i hi => ?_⟩ (.cons (RenP.ptr ⟨by omega, rfl⟩ 0) (.noId hrest)) (hA hp)
      (fin 1 (fun _ => b) (by omega) rfl (fun i h1 h2 => by omega) (fun j h => by cases h) (fun i _ => hbn) (fun i j hi hj _ => by omega))
    · have : i = 0 := by omega
      subst this
      exact ⟨by simp [aloneN, lst, bufO], by rw [ho]; simp [bufO]⟩
    · show ([bufO s .nilslice 0] : List AObj).getD i .dead = .dead
      rw [List.getD, List.getElem?_eq_none (by simpa using hi)]; rfl
    · have : i = 0 := by omega
      subst this
      rw [ho]
      refine .cells (RenL.noId fun x hx => ?_) (by rfl)
      simp only [List.mem_cons, List.not_mem_nil, or_false] at hx
      rcases hx with rfl | rfl | rfl | rfl | rfl | rfl
      · exact .int _ _
      · exact .int _ _
      · exact .int _ _
      · exact .int _ _
      · exact .nilslice
      · exact .int _ _
  | row r0 pre fr0 hb0 hr0 hro hp hl hn hone =>
    have h01 : ∀ i : Nat, i < 2 → i = 0 ∨ i = 1 := fun i hi => by omega
    refine ACalls.frame (k := 2) (ρ := fun i => if i = 0 then b else r0) hG ⟨rfl, fun i j hi hj h => ?_, fun i hi => ?_, fun i hi => ?_, fun i hi => ?_⟩ (.cons (RenP.ptr ⟨by omega, by simp⟩ 0) (.noId hrest)) (hB pre fr hp hl hn hone)
      (fin 2 (fun i => if i = 0 then b else r0) (by omega) (by simp) (fun i h1 h2 => by simp [h2]) (fun j h => by cases h; exact ⟨1, by omega, by omega, by simp⟩) (fun i _ => by split <;> assumption) (fun i j hi hj h => ?_))
    · rcases h01 i hi with rfl | rfl <;> rcases h01 j hj with rfl | rfl <;> simp at h ⊢ <;> first | exact absurd h.symm hb0 | exact absurd h hb0
    · rcases h01 i hi with rfl | rfl
      · exact ⟨by simp [aloneR, lst, bufO], by simp [ho, bufO]⟩
      · exact ⟨by simp [aloneR, lst, rowO], by simp [hro, rowO]⟩
    · show ([bufO s (.rslice 1 0 (fr + s.pend.length)) fr, rowO pre s.pend] : List AObj).getD i .dead = .dead
      rw [List.getD, List.getElem?_eq_none (by simpa using hi)]; rfl
    · rcases h01 i hi with rfl | rfl
      · simp only [if_true]
        rw [ho]
        exact .cells (.cons (.noId (.int _ _)) (.cons (.noId (.int _ _)) (.cons (.noId (.int _ _)) (.cons (.noId (.int _ _)) (.cons (RenP.rslice ⟨by omega, by simp⟩ 0 _) (.cons (.noId (.int _ _)) .nil)))))) (by rfl)
      · simp only [Nat.one_ne_zero, if_false]
        rw [hro]
        refine .cells (RenL.noId (rowO_noId hn)) ?_
        rw [List.all_append, hone, flat_one]; rfl
    · rcases h01 i hi with rfl | rfl <;> rcases h01 j hj with rfl | rfl <;> simp at h ⊢ <;> first | exact absurd h.symm hb0 | exact absurd h hb0
end Go.V
/- Conditions: the buffer's methods, on its own objects alone. -/
set_option maxRecDepth 1000000
set_option linter.unusedVariables false
namespace Go.V
open Go Go.Proofs

def N92 : FnHint := fun id i => match Nat.beq id 2 && Nat.beq i 9 with
  | true => Hint.as (fun t : T => .agg (tc t))
  | false => symAt [(2, 8), (3, 9), (3, 10), (6, 20), (6, 21)] id i
def NNbuf (f : Nat) : FnHint := match Nat.beq f 92 with
  | true => N92
  | false => match Nat.beq f 67 with
    | true => symAt [(1, 7), (1, 8), (1, 9)]
    | false => noHint
def Hask (E : Env) : Hand := hnd E annA NNbuf []
def Hput (E : Env) (N : Nat) : Hand := hnd E annA NNbuf [(66, C66), (68, C68 N)]
theorem vc22a (B : Nat) (w0 : World) (G : Nat → AV) (s : BS) (Q : AV → State → Prop) : (bodyC (EV B w0 G) (Hask (EV B w0 G)) (fun _ _ _ _ => False) annA noHint 22 [.ptr 0 0] (aloneN s) Q) =
 ((bcase (decide (((((BS.asked s) : Nat) : Int) : Int) ≥ 20000))
 (Q (AV.tuple [(AV.int IntKind.i64 0), AV.nilslice, (AV.int IntKind.i64 91)]) (lst [bufO s AV.nilslice 0] 1))
 (bcase (((((BS.deal s) : Nat) : Int) : Int) == (((BS.came s) : Nat) : Int))
 (((TV.v (AV.ptr 0 0)) = (TV.v (AV.ptr 0 0))) ∧
 (((TV.v (AV.ptr 0 0)) = (TV.v (AV.ptr 0 0))) ∧
 (((TV.v (AV.ptr 0 3)) = (TV.v (AV.ptr 0 3))) ∧
 (((TV.v (AV.int IntKind.i64 (IntKind.wrap IntKind.i64 ((((BS.asked s) : Nat) : Int) + 1)))) = (TV.v (AV.int IntKind.i64 (IntKind.wrap IntKind.i64 ((((BS.asked s) : Nat) : Int) + 1))))) ∧
 (((TV.v (AV.int IntKind.i64 (IntKind.wrap IntKind.i64 ((IntKind.wrap IntKind.i64 ((((BS.asked s) : Nat) : Int) + 1)) - 1)))) = (TV.v (AV.int IntKind.i64 (IntKind.wrap IntKind.i64 ((IntKind.wrap IntKind.i64 ((((BS.asked s) : Nat) : Int) + 1)) - 1))))) ∧
 (Q (AV.tuple [(AV.int IntKind.i64 (IntKind.wrap IntKind.i64 ((IntKind.wrap IntKind.i64 ((((BS.asked s) : Nat) : Int) + 1)) - 1))), AV.nilslice, (AV.int IntKind.i64 0)]) (State.set (lst [bufO s AV.nilslice 0] 1) 0 (AObj.cells [(AV.int IntKind.i64 (BS.room s)), (AV.int IntKind.i64 (((BS.came s) : Nat) : Int)), (AV.int IntKind.i64 (((BS.deal s) : Nat) : Int)), (AV.int IntKind.i64 (IntKind.wrap IntKind.i64 ((((BS.asked s) : Nat) : Int) + 1))), AV.nilslice, (AV.int IntKind.i64 0)] 129 6 false))))))))
 (bcase (((((BS.deal s) : Nat) : Int) : Int) == (IntKind.wrap IntKind.i64 ((((BS.asked s) : Nat) : Int) + 1)))
 (((TV.v (AV.ptr 0 0)) = (TV.v (AV.ptr 0 0))) ∧
 (((TV.v (AV.ptr 0 0)) = (TV.v (AV.ptr 0 0))) ∧
 (((TV.v (AV.ptr 0 3)) = (TV.v (AV.ptr 0 3))) ∧
 (((TV.v (AV.int IntKind.i64 (IntKind.wrap IntKind.i64 ((((BS.asked s) : Nat) : Int) + 1)))) = (TV.v (AV.int IntKind.i64 (IntKind.wrap IntKind.i64 ((((BS.asked s) : Nat) : Int) + 1))))) ∧
 (((TV.v (AV.int IntKind.i64 (IntKind.wrap IntKind.i64 ((IntKind.wrap IntKind.i64 ((((BS.asked s) : Nat) : Int) + 1)) - 1)))) = (TV.v (AV.int IntKind.i64 (IntKind.wrap IntKind.i64 ((IntKind.wrap IntKind.i64 ((((BS.asked s) : Nat) : Int) + 1)) - 1))))) ∧
 (Q (AV.tuple [(AV.int IntKind.i64 (IntKind.wrap IntKind.i64 ((IntKind.wrap IntKind.i64 ((((BS.asked s) : Nat) : Int) + 1)) - 1))), AV.nilslice, (AV.int IntKind.i64 0)]) (State.set (lst [bufO s AV.nilslice 0] 1) 0 (AObj.cells [(AV.int IntKind.i64 (BS.room s)), (AV.int IntKind.i64 (((BS.came s) : Nat) : Int)), (AV.int IntKind.i64 (((BS.deal s) : Nat) : Int)), (AV.int IntKind.i64 (IntKind.wrap IntKind.i64 ((((BS.asked s) : Nat) : Int) + 1))), AV.nilslice, (AV.int IntKind.i64 0)] 129 6 false))))))))
 False)))) := by kernel_rfl
theorem vc22b (B : Nat) (w0 : World) (G : Nat → AV) (s : BS) (pre : List AV) (fr : Nat) (Q : AV → State → Prop) : (bodyC (EV B w0 G) (Hask (EV B w0 G)) (fun _ _ _ _ => False) annA noHint 22 [.ptr 0 0] (aloneR s pre fr) Q) =
 ((bcase (decide (((((BS.asked s) : Nat) : Int) : Int) ≥ 20000))
 (Q (AV.tuple [(AV.int IntKind.i64 0), AV.nilslice, (AV.int IntKind.i64 91)]) (lst [bufO s (AV.rslice 1 0 (fr + List.length (BS.pend s))) fr, rowO pre (BS.pend s)] 2))
 (bcase (((((BS.deal s) : Nat) : Int) : Int) == (((BS.came s) : Nat) : Int))
 (((TV.v (AV.ptr 0 0)) = (TV.v (AV.ptr 0 0))) ∧
 (((TV.v (AV.ptr 0 0)) = (TV.v (AV.ptr 0 0))) ∧
 (((TV.v (AV.ptr 0 3)) = (TV.v (AV.ptr 0 3))) ∧
 (((TV.v (AV.int IntKind.i64 (IntKind.wrap IntKind.i64 ((((BS.asked s) : Nat) : Int) + 1)))) = (TV.v (AV.int IntKind.i64 (IntKind.wrap IntKind.i64 ((((BS.asked s) : Nat) : Int) + 1))))) ∧
 (((TV.v (AV.int IntKind.i64 (IntKind.wrap IntKind.i64 ((IntKind.wrap IntKind.i64 ((((BS.asked s) : Nat) : Int) + 1)) - 1)))) = (TV.v (AV.int IntKind.i64 (IntKind.wrap IntKind.i64 ((IntKind.wrap IntKind.i64 ((((BS.asked s) : Nat) : Int) + 1)) - 1))))) ∧
 (Q (AV.tuple [(AV.int IntKind.i64 (IntKind.wrap IntKind.i64 ((IntKind.wrap IntKind.i64 ((((BS.asked s) : Nat) : Int) + 1)) - 1))), AV.nilslice, (AV.int IntKind.i64 0)]) (State.set (lst [bufO s (AV.rslice 1 0 (fr + List.length (BS.pend s))) fr, rowO pre (BS.pend s)] 2) 0 (AObj.cells [(AV.int IntKind.i64 (BS.room s)), (AV.int IntKind.i64 (((BS.came s) : Nat) : Int)), (AV.int IntKind.i64 (((BS.deal s) : Nat) : Int)), (AV.int IntKind.i64 (IntKind.wrap IntKind.i64 ((((BS.asked s) : Nat) : Int) + 1))), (AV.rslice 1 0 ((fr) + (List.length (BS.pend s)))), (AV.int IntKind.i64 (((fr) : Nat) : Int))] 129 6 false))))))))
 (bcase (((((BS.deal s) : Nat) : Int) : Int) == (IntKind.wrap IntKind.i64 ((((BS.asked s) : Nat) : Int) + 1)))
 (((TV.v (AV.ptr 0 0)) = (TV.v (AV.ptr 0 0))) ∧
 (((TV.v (AV.ptr 0 0)) = (TV.v (AV.ptr 0 0))) ∧
 (((TV.v (AV.ptr 0 3)) = (TV.v (AV.ptr 0 3))) ∧
 (((TV.v (AV.int IntKind.i64 (IntKind.wrap IntKind.i64 ((((BS.asked s) : Nat) : Int) + 1)))) = (TV.v (AV.int IntKind.i64 (IntKind.wrap IntKind.i64 ((((BS.asked s) : Nat) : Int) + 1))))) ∧
 (((TV.v (AV.int IntKind.i64 (IntKind.wrap IntKind.i64 ((IntKind.wrap IntKind.i64 ((((BS.asked s) : Nat) : Int) + 1)) - 1)))) = (TV.v (AV.int IntKind.i64 (IntKind.wrap IntKind.i64 ((IntKind.wrap IntKind.i64 ((((BS.asked s) : Nat) : Int) + 1)) - 1))))) ∧
 (Q (AV.tuple [(AV.int IntKind.i64 (IntKind.wrap IntKind.i64 ((IntKind.wrap IntKind.i64 ((((BS.asked s) : Nat) : Int) + 1)) - 1))), AV.nilslice, (AV.int IntKind.i64 0)]) (State.set (lst [bufO s (AV.rslice 1 0 (fr + List.length (BS.pend s))) fr, rowO pre (BS.pend s)] 2) 0 (AObj.cells [(AV.int IntKind.i64 (BS.room s)), (AV.int IntKind.i64 (((BS.came s) : Nat) : Int)), (AV.int IntKind.i64 (((BS.deal s) : Nat) : Int)), (AV.int IntKind.i64 (IntKind.wrap IntKind.i64 ((((BS.asked s) : Nat) : Int) + 1))), (AV.rslice 1 0 ((fr) + (List.length (BS.pend s)))), (AV.int IntKind.i64 (((fr) : Nat) : Int))] 129 6 false))))))))
 ((((0 : Int) ≤ (((fr) : Nat) : Int)) ∧
 (((((fr) : Nat) : Int) : Int) < ((((fr) + (List.length (BS.pend s))) : Nat) : Int))) ∧
 ((((((0 + (Int.toNat (((fr) : Nat) : Int))) * 4) + 4) : Nat) ≤ (List.length ((pre) ++ (flat (tcellL (BS.pend s)))))) ∧
 (∃ x0 : T, (((AV.agg (List.take 4 (List.drop ((0 + (Int.toNat (((fr) : Nat) : Int))) * 4) ((pre) ++ (flat (tcellL (BS.pend s))))))) = (AV.agg [(AV.int IntKind.i64 (T.k x0)), (AV.int IntKind.i64 (T.n x0)), (AV.str (T.s x0)), (AV.slice 4 (tcellL (T.l x0)) Cap.any)])) ∧
 (((TV.v (AV.ptr 0 4)) = (TV.v (AV.ptr 0 4))) ∧
 (((TV.v (AV.ptr 0 4)) = (TV.v (AV.ptr 0 4))) ∧
 (((TV.v (AV.ptr 0 4)) = (TV.v (AV.ptr 0 4))) ∧
 (((TV.v (AV.rslice 1 0 ((fr) + (List.length (BS.pend s))))) = (TV.v (AV.rslice 1 0 ((fr) + (List.length (BS.pend s)))))) ∧
 (((TV.v (AV.ptr 0 4)) = (TV.v (AV.ptr 0 4))) ∧
 (((TV.v (AV.ptr 0 4)) = (TV.v (AV.ptr 0 4))) ∧
 (((TV.v (AV.ptr 0 5)) = (TV.v (AV.ptr 0 5))) ∧
 (((TV.v (AV.int IntKind.i64 (((fr) : Nat) : Int))) = (TV.v (AV.int IntKind.i64 (((fr) : Nat) : Int)))) ∧
 (((((0 : Int) ≤ (((fr) : Nat) : Int)) ∧
 (((((fr) : Nat) : Int) : Int) < ((((fr) + (List.length (BS.pend s))) : Nat) : Int))) ∧
 ((TV.v (AV.ptr 1 ((0 + (Int.toNat (((fr) : Nat) : Int))) * 4))) = (TV.v (AV.ptr 1 ((0 + (Int.toNat (((fr) : Nat) : Int))) * 4))))) ∧
 (((((((0 + (Int.toNat (((fr) : Nat) : Int))) * 4) + 4) : Nat) ≤ (List.length ((pre) ++ (flat (tcellL (BS.pend s)))))) ∧
 (∃ x1 : T, (((AV.agg (List.take 4 (List.drop ((0 + (Int.toNat (((fr) : Nat) : Int))) * 4) ((pre) ++ (flat (tcellL (BS.pend s))))))) = (AV.agg [(AV.int IntKind.i64 (T.k x1)), (AV.int IntKind.i64 (T.n x1)), (AV.str (T.s x1)), (AV.slice 4 (tcellL (T.l x1)) Cap.any)])) ∧
 ((TV.v (AV.agg [(AV.int IntKind.i64 (T.k x1)), (AV.int IntKind.i64 (T.n x1)), (AV.str (T.s x1)), (AV.slice 4 (tcellL (T.l x1)) Cap.any)])) = (TV.v (AV.agg [(AV.int IntKind.i64 (T.k x0)), (AV.int IntKind.i64 (T.n x0)), (AV.str (T.s x0)), (AV.slice 4 (tcellL (T.l x0)) Cap.any)])))))) ∧
 ((((0 : Int) ≤ (((fr) : Nat) : Int)) ∧
 (((((fr) : Nat) : Int) : Int) < ((((fr) + (List.length (BS.pend s))) : Nat) : Int))) ∧
 ((((((0 + (Int.toNat (((fr) : Nat) : Int))) * 4) + 4) : Nat) ≤ (List.length ((pre) ++ (flat (tcellL (BS.pend s)))))) ∧
 (bcase (decide (((IntKind.wrap IntKind.i64 ((((fr) : Nat) : Int) + 1)) : Int) > 32))
 (bcase (decide (((IntKind.wrap IntKind.i64 (2 * (IntKind.wrap IntKind.i64 ((((fr) : Nat) : Int) + 1)))) : Int) > ((((fr) + (List.length (BS.pend s))) : Nat) : Int)))
 ((((0 : Int) ≤ ((((fr) + (List.length (BS.pend s))) : Nat) : Int)) ∧
 ((((((fr) + (List.length (BS.pend s))) : Nat) : Int) : Int) ≤ ((((fr) + (List.length (BS.pend s))) : Nat) : Int))) ∧
 ((((0 : Int) ≤ ((((fr) + (List.length (BS.pend s))) : Nat) : Int)) ∧
 ((((((fr) + (List.length (BS.pend s))) : Nat) : Int) : Int) ≤ (((Int.toNat ((((fr) + (List.length (BS.pend s))) : Nat) : Int)) : Nat) : Int))) ∧
 ((((0 : Int) ≤ (IntKind.wrap IntKind.i64 ((((fr) : Nat) : Int) + 1))) ∧
 (((IntKind.wrap IntKind.i64 ((((fr) : Nat) : Int) + 1)) : Int) ≤ (((Int.toNat ((((fr) + (List.length (BS.pend s))) : Nat) : Int)) : Nat) : Int))) ∧
 ((((((0 + (Int.toNat (IntKind.wrap IntKind.i64 ((((fr) : Nat) : Int) + 1)))) + ((Int.toNat ((((fr) + (List.length (BS.pend s))) : Nat) : Int)) - (Int.toNat (IntKind.wrap IntKind.i64 ((((fr) : Nat) : Int) + 1))))) * 4) : Nat) ≤ (List.length (asplice ((pre) ++ (flat (tcellL (BS.pend s)))) ((0 + (Int.toNat (((fr) : Nat) : Int))) * 4) [(AV.int IntKind.i64 0), (AV.int IntKind.i64 0), (AV.str ⟨⟨[]⟩⟩), AV.nilslice]))) ∧
 (bcase (List.isEmpty (chunk (Option.some 4) (List.take (((Int.toNat ((((fr) + (List.length (BS.pend s))) : Nat) : Int)) - (Int.toNat (IntKind.wrap IntKind.i64 ((((fr) : Nat) : Int) + 1)))) * 4) (List.drop ((0 + (Int.toNat (IntKind.wrap IntKind.i64 ((((fr) : Nat) : Int) + 1)))) * 4) (asplice ((pre) ++ (flat (tcellL (BS.pend s)))) ((0 + (Int.toNat (((fr) : Nat) : Int))) * 4) [(AV.int IntKind.i64 0), (AV.int IntKind.i64 0), (AV.str ⟨⟨[]⟩⟩), AV.nilslice]))) ((Int.toNat ((((fr) + (List.length (BS.pend s))) : Nat) : Int)) - (Int.toNat (IntKind.wrap IntKind.i64 ((((fr) : Nat) : Int) + 1))))))
 (((TV.v (AV.ptr 0 4)) = (TV.v (AV.ptr 0 4))) ∧
 (((TV.v (AV.ptr 0 4)) = (TV.v (AV.ptr 0 4))) ∧
 (((TV.v (AV.ptr 0 4)) = (TV.v (AV.ptr 0 4))) ∧
 (((TV.v (AV.ptr 0 0)) = (TV.v (AV.ptr 0 0))) ∧
 (((TV.v (AV.ptr 0 0)) = (TV.v (AV.ptr 0 0))) ∧
 (((TV.v (AV.ptr 0 2)) = (TV.v (AV.ptr 0 2))) ∧
 (((TV.v (AV.int IntKind.i64 (IntKind.wrap IntKind.i64 ((((BS.deal s) : Nat) : Int) + 1)))) = (TV.v (AV.int IntKind.i64 (IntKind.wrap IntKind.i64 ((((BS.deal s) : Nat) : Int) + 1))))) ∧
 (((TV.v (AV.int IntKind.i64 (IntKind.wrap IntKind.i64 ((IntKind.wrap IntKind.i64 ((((BS.deal s) : Nat) : Int) + 1)) - 1)))) = (TV.v (AV.int IntKind.i64 (IntKind.wrap IntKind.i64 ((IntKind.wrap IntKind.i64 ((((BS.deal s) : Nat) : Int) + 1)) - 1))))) ∧
 (((TV.v (AV.ptr 0 0)) = (TV.v (AV.ptr 0 0))) ∧
 (((TV.v (AV.ptr 0 0)) = (TV.v (AV.ptr 0 0))) ∧
 (((TV.v (AV.ptr 0 2)) = (TV.v (AV.ptr 0 2))) ∧
 (((TV.v (AV.int IntKind.i64 (IntKind.wrap IntKind.i64 ((((BS.deal s) : Nat) : Int) + 1)))) = (TV.v (AV.int IntKind.i64 (IntKind.wrap IntKind.i64 ((((BS.deal s) : Nat) : Int) + 1))))) ∧
 (((TV.v (AV.int IntKind.i64 (IntKind.wrap IntKind.i64 ((IntKind.wrap IntKind.i64 ((((BS.deal s) : Nat) : Int) + 1)) - 1)))) = (TV.v (AV.int IntKind.i64 (IntKind.wrap IntKind.i64 ((IntKind.wrap IntKind.i64 ((((BS.deal s) : Nat) : Int) + 1)) - 1))))) ∧
 (((TV.v (AV.ptr 0 0)) = (TV.v (AV.ptr 0 0))) ∧
 (((TV.v (AV.ptr 0 0)) = (TV.v (AV.ptr 0 0))) ∧
 (((TV.v (AV.ptr 0 3)) = (TV.v (AV.ptr 0 3))) ∧
 (((TV.v (AV.int IntKind.i64 (IntKind.wrap IntKind.i64 ((((BS.asked s) : Nat) : Int) + 1)))) = (TV.v (AV.int IntKind.i64 (IntKind.wrap IntKind.i64 ((((BS.asked s) : Nat) : Int) + 1))))) ∧
 (((TV.v (AV.int IntKind.i64 (IntKind.wrap IntKind.i64 ((IntKind.wrap IntKind.i64 ((((BS.asked s) : Nat) : Int) + 1)) - 1)))) = (TV.v (AV.int IntKind.i64 (IntKind.wrap IntKind.i64 ((IntKind.wrap IntKind.i64 ((((BS.asked s) : Nat) : Int) + 1)) - 1))))) ∧
 (Q (AV.tuple [(AV.int IntKind.i64 (IntKind.wrap IntKind.i64 ((IntKind.wrap IntKind.i64 ((((BS.asked s) : Nat) : Int) + 1)) - 1))), (AV.slice 6 [(AV.agg [(AV.int IntKind.i64 (IntKind.wrap IntKind.i64 ((IntKind.wrap IntKind.i64 ((((BS.deal s) : Nat) : Int) + 1)) - 1))), (AV.int IntKind.i64 (IntKind.wrap IntKind.i64 ((IntKind.wrap IntKind.i64 ((((BS.deal s) : Nat) : Int) + 1)) - 1))), (AV.int IntKind.i64 (T.k x0)), (AV.int IntKind.i64 (T.n x0)), (AV.str (T.s x0)), (AV.slice 4 (tcellL (T.l x0)) Cap.any)])] Cap.full), (AV.int IntKind.i64 0)]) (State.set (State.set (State.set (State.set (State.set (State.set (lst [bufO s (AV.rslice 1 0 (fr + List.length (BS.pend s))) fr, rowO pre (BS.pend s)] 2) 0 (AObj.cells [(AV.int IntKind.i64 (BS.room s)), (AV.int IntKind.i64 (((BS.came s) : Nat) : Int)), (AV.int IntKind.i64 (((BS.deal s) : Nat) : Int)), (AV.int IntKind.i64 (IntKind.wrap IntKind.i64 ((((BS.asked s) : Nat) : Int) + 1))), (AV.rslice 1 0 ((fr) + (List.length (BS.pend s)))), (AV.int IntKind.i64 (((fr) : Nat) : Int))] 129 6 false)) 0 (AObj.cells [(AV.int IntKind.i64 (BS.room s)), (AV.int IntKind.i64 (((BS.came s) : Nat) : Int)), (AV.int IntKind.i64 (IntKind.wrap IntKind.i64 ((((BS.deal s) : Nat) : Int) + 1))), (AV.int IntKind.i64 (IntKind.wrap IntKind.i64 ((((BS.asked s) : Nat) : Int) + 1))), (AV.rslice 1 0 ((fr) + (List.length (BS.pend s)))), (AV.int IntKind.i64 (((fr) : Nat) : Int))] 129 6 false)) 1 (AObj.cells (asplice ((pre) ++ (flat (tcellL (BS.pend s)))) ((0 + (Int.toNat (((fr) : Nat) : Int))) * 4) [(AV.int IntKind.i64 0), (AV.int IntKind.i64 0), (AV.str ⟨⟨[]⟩⟩), AV.nilslice]) 37 4 true)) 0 (AObj.cells [(AV.int IntKind.i64 (BS.room s)), (AV.int IntKind.i64 (((BS.came s) : Nat) : Int)), (AV.int IntKind.i64 (IntKind.wrap IntKind.i64 ((((BS.deal s) : Nat) : Int) + 1))), (AV.int IntKind.i64 (IntKind.wrap IntKind.i64 ((((BS.asked s) : Nat) : Int) + 1))), (AV.rslice 1 0 ((fr) + (List.length (BS.pend s)))), (AV.int IntKind.i64 (IntKind.wrap IntKind.i64 ((((fr) : Nat) : Int) + 1)))] 129 6 false)) 0 (AObj.cells [(AV.int IntKind.i64 (BS.room s)), (AV.int IntKind.i64 (((BS.came s) : Nat) : Int)), (AV.int IntKind.i64 (IntKind.wrap IntKind.i64 ((((BS.deal s) : Nat) : Int) + 1))), (AV.int IntKind.i64 (IntKind.wrap IntKind.i64 ((((BS.asked s) : Nat) : Int) + 1))), AV.nilslice, (AV.int IntKind.i64 (IntKind.wrap IntKind.i64 ((((fr) : Nat) : Int) + 1)))] 129 6 false)) 0 (AObj.cells [(AV.int IntKind.i64 (BS.room s)), (AV.int IntKind.i64 (((BS.came s) : Nat) : Int)), (AV.int IntKind.i64 (IntKind.wrap IntKind.i64 ((((BS.deal s) : Nat) : Int) + 1))), (AV.int IntKind.i64 (IntKind.wrap IntKind.i64 ((((BS.asked s) : Nat) : Int) + 1))), AV.nilslice, (AV.int IntKind.i64 0)] 129 6 false)))))))))))))))))))))
 ((((((List.length (chunk (Option.some 4) (List.take (((Int.toNat ((((fr) + (List.length (BS.pend s))) : Nat) : Int)) - (Int.toNat (IntKind.wrap IntKind.i64 ((((fr) : Nat) : Int) + 1)))) * 4) (List.drop ((0 + (Int.toNat (IntKind.wrap IntKind.i64 ((((fr) : Nat) : Int) + 1)))) * 4) (asplice ((pre) ++ (flat (tcellL (BS.pend s)))) ((0 + (Int.toNat (((fr) : Nat) : Int))) * 4) [(AV.int IntKind.i64 0), (AV.int IntKind.i64 0), (AV.str ⟨⟨[]⟩⟩), AV.nilslice]))) ((Int.toNat ((((fr) + (List.length (BS.pend s))) : Nat) : Int)) - (Int.toNat (IntKind.wrap IntKind.i64 ((((fr) : Nat) : Int) + 1)))))) * 56) : Nat) ≤ 140737488355328) ∧
 (((List.length (chunk (Option.some 4) (List.take (((Int.toNat ((((fr) + (List.length (BS.pend s))) : Nat) : Int)) - (Int.toNat (IntKind.wrap IntKind.i64 ((((fr) : Nat) : Int) + 1)))) * 4) (List.drop ((0 + (Int.toNat (IntKind.wrap IntKind.i64 ((((fr) : Nat) : Int) + 1)))) * 4) (asplice ((pre) ++ (flat (tcellL (BS.pend s)))) ((0 + (Int.toNat (((fr) : Nat) : Int))) * 4) [(AV.int IntKind.i64 0), (AV.int IntKind.i64 0), (AV.str ⟨⟨[]⟩⟩), AV.nilslice]))) ((Int.toNat ((((fr) + (List.length (BS.pend s))) : Nat) : Int)) - (Int.toNat (IntKind.wrap IntKind.i64 ((((fr) : Nat) : Int) + 1)))))) : Nat) ≤ 4611686018427387904)) ∧
 (((TV.v (AV.ptr 0 4)) = (TV.v (AV.ptr 0 4))) ∧
 (((TV.v (AV.ptr 0 4)) = (TV.v (AV.ptr 0 4))) ∧
 (((TV.v (AV.ptr 0 4)) = (TV.v (AV.ptr 0 4))) ∧
 (((TV.v (AV.ptr 0 0)) = (TV.v (AV.ptr 0 0))) ∧
 (((TV.v (AV.ptr 0 0)) = (TV.v (AV.ptr 0 0))) ∧
 (((TV.v (AV.ptr 0 2)) = (TV.v (AV.ptr 0 2))) ∧
 (((TV.v (AV.int IntKind.i64 (IntKind.wrap IntKind.i64 ((((BS.deal s) : Nat) : Int) + 1)))) = (TV.v (AV.int IntKind.i64 (IntKind.wrap IntKind.i64 ((((BS.deal s) : Nat) : Int) + 1))))) ∧
 (((TV.v (AV.int IntKind.i64 (IntKind.wrap IntKind.i64 ((IntKind.wrap IntKind.i64 ((((BS.deal s) : Nat) : Int) + 1)) - 1)))) = (TV.v (AV.int IntKind.i64 (IntKind.wrap IntKind.i64 ((IntKind.wrap IntKind.i64 ((((BS.deal s) : Nat) : Int) + 1)) - 1))))) ∧
 (((TV.v (AV.ptr 0 0)) = (TV.v (AV.ptr 0 0))) ∧
 (((TV.v (AV.ptr 0 0)) = (TV.v (AV.ptr 0 0))) ∧
 (((TV.v (AV.ptr 0 2)) = (TV.v (AV.ptr 0 2))) ∧
 (((TV.v (AV.int IntKind.i64 (IntKind.wrap IntKind.i64 ((((BS.deal s) : Nat) : Int) + 1)))) = (TV.v (AV.int IntKind.i64 (IntKind.wrap IntKind.i64 ((((BS.deal s) : Nat) : Int) + 1))))) ∧
 (((TV.v (AV.int IntKind.i64 (IntKind.wrap IntKind.i64 ((IntKind.wrap IntKind.i64 ((((BS.deal s) : Nat) : Int) + 1)) - 1)))) = (TV.v (AV.int IntKind.i64 (IntKind.wrap IntKind.i64 ((IntKind.wrap IntKind.i64 ((((BS.deal s) : Nat) : Int) + 1)) - 1))))) ∧
 (((TV.v (AV.ptr 0 0)) = (TV.v (AV.ptr 0 0))) ∧
 (((TV.v (AV.ptr 0 0)) = (TV.v (AV.ptr 0 0))) ∧
 (((TV.v (AV.ptr 0 3)) = (TV.v (AV.ptr 0 3))) ∧
 (((TV.v (AV.int IntKind.i64 (IntKind.wrap IntKind.i64 ((((BS.asked s) : Nat) : Int) + 1)))) = (TV.v (AV.int IntKind.i64 (IntKind.wrap IntKind.i64 ((((BS.asked s) : Nat) : Int) + 1))))) ∧
 (((TV.v (AV.int IntKind.i64 (IntKind.wrap IntKind.i64 ((IntKind.wrap IntKind.i64 ((((BS.asked s) : Nat) : Int) + 1)) - 1)))) = (TV.v (AV.int IntKind.i64 (IntKind.wrap IntKind.i64 ((IntKind.wrap IntKind.i64 ((((BS.asked s) : Nat) : Int) + 1)) - 1))))) ∧
 (Q (AV.tuple [(AV.int IntKind.i64 (IntKind.wrap IntKind.i64 ((IntKind.wrap IntKind.i64 ((((BS.asked s) : Nat) : Int) + 1)) - 1))), (AV.slice 6 [(AV.agg [(AV.int IntKind.i64 (IntKind.wrap IntKind.i64 ((IntKind.wrap IntKind.i64 ((((BS.deal s) : Nat) : Int) + 1)) - 1))), (AV.int IntKind.i64 (IntKind.wrap IntKind.i64 ((IntKind.wrap IntKind.i64 ((((BS.deal s) : Nat) : Int) + 1)) - 1))), (AV.int IntKind.i64 (T.k x0)), (AV.int IntKind.i64 (T.n x0)), (AV.str (T.s x0)), (AV.slice 4 (tcellL (T.l x0)) Cap.any)])] Cap.full), (AV.int IntKind.i64 0)]) (State.set (State.set (State.new (State.set (State.set (State.set (State.set (lst [bufO s (AV.rslice 1 0 (fr + List.length (BS.pend s))) fr, rowO pre (BS.pend s)] 2) 0 (AObj.cells [(AV.int IntKind.i64 (BS.room s)), (AV.int IntKind.i64 (((BS.came s) : Nat) : Int)), (AV.int IntKind.i64 (((BS.deal s) : Nat) : Int)), (AV.int IntKind.i64 (IntKind.wrap IntKind.i64 ((((BS.asked s) : Nat) : Int) + 1))), (AV.rslice 1 0 ((fr) + (List.length (BS.pend s)))), (AV.int IntKind.i64 (((fr) : Nat) : Int))] 129 6 false)) 0 (AObj.cells [(AV.int IntKind.i64 (BS.room s)), (AV.int IntKind.i64 (((BS.came s) : Nat) : Int)), (AV.int IntKind.i64 (IntKind.wrap IntKind.i64 ((((BS.deal s) : Nat) : Int) + 1))), (AV.int IntKind.i64 (IntKind.wrap IntKind.i64 ((((BS.asked s) : Nat) : Int) + 1))), (AV.rslice 1 0 ((fr) + (List.length (BS.pend s)))), (AV.int IntKind.i64 (((fr) : Nat) : Int))] 129 6 false)) 1 (AObj.cells (asplice ((pre) ++ (flat (tcellL (BS.pend s)))) ((0 + (Int.toNat (((fr) : Nat) : Int))) * 4) [(AV.int IntKind.i64 0), (AV.int IntKind.i64 0), (AV.str ⟨⟨[]⟩⟩), AV.nilslice]) 37 4 true)) 0 (AObj.cells [(AV.int IntKind.i64 (BS.room s)), (AV.int IntKind.i64 (((BS.came s) : Nat) : Int)), (AV.int IntKind.i64 (IntKind.wrap IntKind.i64 ((((BS.deal s) : Nat) : Int) + 1))), (AV.int IntKind.i64 (IntKind.wrap IntKind.i64 ((((BS.asked s) : Nat) : Int) + 1))), (AV.rslice 1 0 ((fr) + (List.length (BS.pend s)))), (AV.int IntKind.i64 (IntKind.wrap IntKind.i64 ((((fr) : Nat) : Int) + 1)))] 129 6 false)) (AObj.cells (flat (chunk (Option.some 4) (List.take (((Int.toNat ((((fr) + (List.length (BS.pend s))) : Nat) : Int)) - (Int.toNat (IntKind.wrap IntKind.i64 ((((fr) : Nat) : Int) + 1)))) * 4) (List.drop ((0 + (Int.toNat (IntKind.wrap IntKind.i64 ((((fr) : Nat) : Int) + 1)))) * 4) (asplice ((pre) ++ (flat (tcellL (BS.pend s)))) ((0 + (Int.toNat (((fr) : Nat) : Int))) * 4) [(AV.int IntKind.i64 0), (AV.int IntKind.i64 0), (AV.str ⟨⟨[]⟩⟩), AV.nilslice]))) ((Int.toNat ((((fr) + (List.length (BS.pend s))) : Nat) : Int)) - (Int.toNat (IntKind.wrap IntKind.i64 ((((fr) : Nat) : Int) + 1)))))) 37 4 true)) 0 (AObj.cells [(AV.int IntKind.i64 (BS.room s)), (AV.int IntKind.i64 (((BS.came s) : Nat) : Int)), (AV.int IntKind.i64 (IntKind.wrap IntKind.i64 ((((BS.deal s) : Nat) : Int) + 1))), (AV.int IntKind.i64 (IntKind.wrap IntKind.i64 ((((BS.asked s) : Nat) : Int) + 1))), (AV.rslice 2 0 (List.length (chunk (Option.some 4) (List.take (((Int.toNat ((((fr) + (List.length (BS.pend s))) : Nat) : Int)) - (Int.toNat (IntKind.wrap IntKind.i64 ((((fr) : Nat) : Int) + 1)))) * 4) (List.drop ((0 + (Int.toNat (IntKind.wrap IntKind.i64 ((((fr) : Nat) : Int) + 1)))) * 4) (asplice ((pre) ++ (flat (tcellL (BS.pend s)))) ((0 + (Int.toNat (((fr) : Nat) : Int))) * 4) [(AV.int IntKind.i64 0), (AV.int IntKind.i64 0), (AV.str ⟨⟨[]⟩⟩), AV.nilslice]))) ((Int.toNat ((((fr) + (List.length (BS.pend s))) : Nat) : Int)) - (Int.toNat (IntKind.wrap IntKind.i64 ((((fr) : Nat) : Int) + 1))))))), (AV.int IntKind.i64 (IntKind.wrap IntKind.i64 ((((fr) : Nat) : Int) + 1)))] 129 6 false)) 0 (AObj.cells [(AV.int IntKind.i64 (BS.room s)), (AV.int IntKind.i64 (((BS.came s) : Nat) : Int)), (AV.int IntKind.i64 (IntKind.wrap IntKind.i64 ((((BS.deal s) : Nat) : Int) + 1))), (AV.int IntKind.i64 (IntKind.wrap IntKind.i64 ((((BS.asked s) : Nat) : Int) + 1))), (AV.rslice 2 0 (List.length (chunk (Option.some 4) (List.take (((Int.toNat ((((fr) + (List.length (BS.pend s))) : Nat) : Int)) - (Int.toNat (IntKind.wrap IntKind.i64 ((((fr) : Nat) : Int) + 1)))) * 4) (List.drop ((0 + (Int.toNat (IntKind.wrap IntKind.i64 ((((fr) : Nat) : Int) + 1)))) * 4) (asplice ((pre) ++ (flat (tcellL (BS.pend s)))) ((0 + (Int.toNat (((fr) : Nat) : Int))) * 4) [(AV.int IntKind.i64 0), (AV.int IntKind.i64 0), (AV.str ⟨⟨[]⟩⟩), AV.nilslice]))) ((Int.toNat ((((fr) + (List.length (BS.pend s))) : Nat) : Int)) - (Int.toNat (IntKind.wrap IntKind.i64 ((((fr) : Nat) : Int) + 1))))))), (AV.int IntKind.i64 0)] 129 6 false)))))))))))))))))))))))))))
 (((TV.v (AV.ptr 0 0)) = (TV.v (AV.ptr 0 0))) ∧
 (((TV.v (AV.ptr 0 0)) = (TV.v (AV.ptr 0 0))) ∧
 (((TV.v (AV.ptr 0 2)) = (TV.v (AV.ptr 0 2))) ∧
 (((TV.v (AV.int IntKind.i64 (IntKind.wrap IntKind.i64 ((((BS.deal s) : Nat) : Int) + 1)))) = (TV.v (AV.int IntKind.i64 (IntKind.wrap IntKind.i64 ((((BS.deal s) : Nat) : Int) + 1))))) ∧
 (((TV.v (AV.int IntKind.i64 (IntKind.wrap IntKind.i64 ((IntKind.wrap IntKind.i64 ((((BS.deal s) : Nat) : Int) + 1)) - 1)))) = (TV.v (AV.int IntKind.i64 (IntKind.wrap IntKind.i64 ((IntKind.wrap IntKind.i64 ((((BS.deal s) : Nat) : Int) + 1)) - 1))))) ∧
 (((TV.v (AV.ptr 0 0)) = (TV.v (AV.ptr 0 0))) ∧
 (((TV.v (AV.ptr 0 0)) = (TV.v (AV.ptr 0 0))) ∧
 (((TV.v (AV.ptr 0 2)) = (TV.v (AV.ptr 0 2))) ∧
 (((TV.v (AV.int IntKind.i64 (IntKind.wrap IntKind.i64 ((((BS.deal s) : Nat) : Int) + 1)))) = (TV.v (AV.int IntKind.i64 (IntKind.wrap IntKind.i64 ((((BS.deal s) : Nat) : Int) + 1))))) ∧
 (((TV.v (AV.int IntKind.i64 (IntKind.wrap IntKind.i64 ((IntKind.wrap IntKind.i64 ((((BS.deal s) : Nat) : Int) + 1)) - 1)))) = (TV.v (AV.int IntKind.i64 (IntKind.wrap IntKind.i64 ((IntKind.wrap IntKind.i64 ((((BS.deal s) : Nat) : Int) + 1)) - 1))))) ∧
 (((TV.v (AV.ptr 0 0)) = (TV.v (AV.ptr 0 0))) ∧
 (((TV.v (AV.ptr 0 0)) = (TV.v (AV.ptr 0 0))) ∧
 (((TV.v (AV.ptr 0 3)) = (TV.v (AV.ptr 0 3))) ∧
 (((TV.v (AV.int IntKind.i64 (IntKind.wrap IntKind.i64 ((((BS.asked s) : Nat) : Int) + 1)))) = (TV.v (AV.int IntKind.i64 (IntKind.wrap IntKind.i64 ((((BS.asked s) : Nat) : Int) + 1))))) ∧
 (((TV.v (AV.int IntKind.i64 (IntKind.wrap IntKind.i64 ((IntKind.wrap IntKind.i64 ((((BS.asked s) : Nat) : Int) + 1)) - 1)))) = (TV.v (AV.int IntKind.i64 (IntKind.wrap IntKind.i64 ((IntKind.wrap IntKind.i64 ((((BS.asked s) : Nat) : Int) + 1)) - 1))))) ∧
 (Q (AV.tuple [(AV.int IntKind.i64 (IntKind.wrap IntKind.i64 ((IntKind.wrap IntKind.i64 ((((BS.asked s) : Nat) : Int) + 1)) - 1))), (AV.slice 6 [(AV.agg [(AV.int IntKind.i64 (IntKind.wrap IntKind.i64 ((IntKind.wrap IntKind.i64 ((((BS.deal s) : Nat) : Int) + 1)) - 1))), (AV.int IntKind.i64 (IntKind.wrap IntKind.i64 ((IntKind.wrap IntKind.i64 ((((BS.deal s) : Nat) : Int) + 1)) - 1))), (AV.int IntKind.i64 (T.k x0)), (AV.int IntKind.i64 (T.n x0)), (AV.str (T.s x0)), (AV.slice 4 (tcellL (T.l x0)) Cap.any)])] Cap.full), (AV.int IntKind.i64 0)]) (State.set (State.set (State.set (State.set (lst [bufO s (AV.rslice 1 0 (fr + List.length (BS.pend s))) fr, rowO pre (BS.pend s)] 2) 0 (AObj.cells [(AV.int IntKind.i64 (BS.room s)), (AV.int IntKind.i64 (((BS.came s) : Nat) : Int)), (AV.int IntKind.i64 (((BS.deal s) : Nat) : Int)), (AV.int IntKind.i64 (IntKind.wrap IntKind.i64 ((((BS.asked s) : Nat) : Int) + 1))), (AV.rslice 1 0 ((fr) + (List.length (BS.pend s)))), (AV.int IntKind.i64 (((fr) : Nat) : Int))] 129 6 false)) 0 (AObj.cells [(AV.int IntKind.i64 (BS.room s)), (AV.int IntKind.i64 (((BS.came s) : Nat) : Int)), (AV.int IntKind.i64 (IntKind.wrap IntKind.i64 ((((BS.deal s) : Nat) : Int) + 1))), (AV.int IntKind.i64 (IntKind.wrap IntKind.i64 ((((BS.asked s) : Nat) : Int) + 1))), (AV.rslice 1 0 ((fr) + (List.length (BS.pend s)))), (AV.int IntKind.i64 (((fr) : Nat) : Int))] 129 6 false)) 1 (AObj.cells (asplice ((pre) ++ (flat (tcellL (BS.pend s)))) ((0 + (Int.toNat (((fr) : Nat) : Int))) * 4) [(AV.int IntKind.i64 0), (AV.int IntKind.i64 0), (AV.str ⟨⟨[]⟩⟩), AV.nilslice]) 37 4 true)) 0 (AObj.cells [(AV.int IntKind.i64 (BS.room s)), (AV.int IntKind.i64 (((BS.came s) : Nat) : Int)), (AV.int IntKind.i64 (IntKind.wrap IntKind.i64 ((((BS.deal s) : Nat) : Int) + 1))), (AV.int IntKind.i64 (IntKind.wrap IntKind.i64 ((((BS.asked s) : Nat) : Int) + 1))), (AV.rslice 1 0 ((fr) + (List.length (BS.pend s)))), (AV.int IntKind.i64 (IntKind.wrap IntKind.i64 ((((fr) : Nat) : Int) + 1)))] 129 6 false)))))))))))))))))))
 (((TV.v (AV.ptr 0 0)) = (TV.v (AV.ptr 0 0))) ∧
 (((TV.v (AV.ptr 0 0)) = (TV.v (AV.ptr 0 0))) ∧
 (((TV.v (AV.ptr 0 2)) = (TV.v (AV.ptr 0 2))) ∧
 (((TV.v (AV.int IntKind.i64 (IntKind.wrap IntKind.i64 ((((BS.deal s) : Nat) : Int) + 1)))) = (TV.v (AV.int IntKind.i64 (IntKind.wrap IntKind.i64 ((((BS.deal s) : Nat) : Int) + 1))))) ∧
 (((TV.v (AV.int IntKind.i64 (IntKind.wrap IntKind.i64 ((IntKind.wrap IntKind.i64 ((((BS.deal s) : Nat) : Int) + 1)) - 1)))) = (TV.v (AV.int IntKind.i64 (IntKind.wrap IntKind.i64 ((IntKind.wrap IntKind.i64 ((((BS.deal s) : Nat) : Int) + 1)) - 1))))) ∧
 (((TV.v (AV.ptr 0 0)) = (TV.v (AV.ptr 0 0))) ∧
 (((TV.v (AV.ptr 0 0)) = (TV.v (AV.ptr 0 0))) ∧
 (((TV.v (AV.ptr 0 2)) = (TV.v (AV.ptr 0 2))) ∧
 (((TV.v (AV.int IntKind.i64 (IntKind.wrap IntKind.i64 ((((BS.deal s) : Nat) : Int) + 1)))) = (TV.v (AV.int IntKind.i64 (IntKind.wrap IntKind.i64 ((((BS.deal s) : Nat) : Int) + 1))))) ∧
 (((TV.v (AV.int IntKind.i64 (IntKind.wrap IntKind.i64 ((IntKind.wrap IntKind.i64 ((((BS.deal s) : Nat) : Int) + 1)) - 1)))) = (TV.v (AV.int IntKind.i64 (IntKind.wrap IntKind.i64 ((IntKind.wrap IntKind.i64 ((((BS.deal s) : Nat) : Int) + 1)) - 1))))) ∧
 (((TV.v (AV.ptr 0 0)) = (TV.v (AV.ptr 0 0))) ∧
 (((TV.v (AV.ptr 0 0)) = (TV.v (AV.ptr 0 0))) ∧
 (((TV.v (AV.ptr 0 3)) = (TV.v (AV.ptr 0 3))) ∧
 (((TV.v (AV.int IntKind.i64 (IntKind.wrap IntKind.i64 ((((BS.asked s) : Nat) : Int) + 1)))) = (TV.v (AV.int IntKind.i64 (IntKind.wrap IntKind.i64 ((((BS.asked s) : Nat) : Int) + 1))))) ∧
 (((TV.v (AV.int IntKind.i64 (IntKind.wrap IntKind.i64 ((IntKind.wrap IntKind.i64 ((((BS.asked s) : Nat) : Int) + 1)) - 1)))) = (TV.v (AV.int IntKind.i64 (IntKind.wrap IntKind.i64 ((IntKind.wrap IntKind.i64 ((((BS.asked s) : Nat) : Int) + 1)) - 1))))) ∧
 (Q (AV.tuple [(AV.int IntKind.i64 (IntKind.wrap IntKind.i64 ((IntKind.wrap IntKind.i64 ((((BS.asked s) : Nat) : Int) + 1)) - 1))), (AV.slice 6 [(AV.agg [(AV.int IntKind.i64 (IntKind.wrap IntKind.i64 ((IntKind.wrap IntKind.i64 ((((BS.deal s) : Nat) : Int) + 1)) - 1))), (AV.int IntKind.i64 (IntKind.wrap IntKind.i64 ((IntKind.wrap IntKind.i64 ((((BS.deal s) : Nat) : Int) + 1)) - 1))), (AV.int IntKind.i64 (T.k x0)), (AV.int IntKind.i64 (T.n x0)), (AV.str (T.s x0)), (AV.slice 4 (tcellL (T.l x0)) Cap.any)])] Cap.full), (AV.int IntKind.i64 0)]) (State.set (State.set (State.set (State.set (lst [bufO s (AV.rslice 1 0 (fr + List.length (BS.pend s))) fr, rowO pre (BS.pend s)] 2) 0 (AObj.cells [(AV.int IntKind.i64 (BS.room s)), (AV.int IntKind.i64 (((BS.came s) : Nat) : Int)), (AV.int IntKind.i64 (((BS.deal s) : Nat) : Int)), (AV.int IntKind.i64 (IntKind.wrap IntKind.i64 ((((BS.asked s) : Nat) : Int) + 1))), (AV.rslice 1 0 ((fr) + (List.length (BS.pend s)))), (AV.int IntKind.i64 (((fr) : Nat) : Int))] 129 6 false)) 0 (AObj.cells [(AV.int IntKind.i64 (BS.room s)), (AV.int IntKind.i64 (((BS.came s) : Nat) : Int)), (AV.int IntKind.i64 (IntKind.wrap IntKind.i64 ((((BS.deal s) : Nat) : Int) + 1))), (AV.int IntKind.i64 (IntKind.wrap IntKind.i64 ((((BS.asked s) : Nat) : Int) + 1))), (AV.rslice 1 0 ((fr) + (List.length (BS.pend s)))), (AV.int IntKind.i64 (((fr) : Nat) : Int))] 129 6 false)) 1 (AObj.cells (asplice ((pre) ++ (flat (tcellL (BS.pend s)))) ((0 + (Int.toNat (((fr) : Nat) : Int))) * 4) [(AV.int IntKind.i64 0), (AV.int IntKind.i64 0), (AV.str ⟨⟨[]⟩⟩), AV.nilslice]) 37 4 true)) 0 (AObj.cells [(AV.int IntKind.i64 (BS.room s)), (AV.int IntKind.i64 (((BS.came s) : Nat) : Int)), (AV.int IntKind.i64 (IntKind.wrap IntKind.i64 ((((BS.deal s) : Nat) : Int) + 1))), (AV.int IntKind.i64 (IntKind.wrap IntKind.i64 ((((BS.asked s) : Nat) : Int) + 1))), (AV.rslice 1 0 ((fr) + (List.length (BS.pend s)))), (AV.int IntKind.i64 (IntKind.wrap IntKind.i64 ((((fr) : Nat) : Int) + 1)))] 129 6 false))))))))))))))))))))))))))))))))))))))) := by kernel_rfl
theorem vc24a (B : Nat) (w0 : World) (G : Nat → AV) (N : Nat) (t : T) (s : BS) (Q : AV → State → Prop) : (bodyC (EV B w0 G) (Hput (EV B w0 G) N) (fun _ _ _ _ => False) annA noHint 24 [.ptr 0 0, .agg (tc t)] (aloneN s) Q) =
 ((∃ t0 : T, (([(AV.agg [(AV.int IntKind.i64 (T.k t)), (AV.int IntKind.i64 (T.n t)), (AV.str (T.s t)), (AV.slice 4 (tcellL (T.l t)) Cap.any)])] = [(AV.agg [(AV.int IntKind.i64 (T.k t0)), (AV.int IntKind.i64 (T.n t0)), (AV.str (T.s t0)), (AV.slice 4 (tcellL (T.l t0)) Cap.any)])]) ∧
 (bcase (((chkT t0) : Int) != 0)
 (Q (AV.tuple [(AV.int IntKind.i64 0), AV.nilslice, (AV.int IntKind.i64 3)]) (State.untok (aloneN s)))
 (bcase (decide (((((BS.came s) : Nat) : Int) : Int) ≥ 20000))
 (Q (AV.tuple [(AV.int IntKind.i64 0), AV.nilslice, (AV.int IntKind.i64 91)]) (State.untok (aloneN s)))
 (∃ t1 : T, (([(AV.agg [(AV.int IntKind.i64 (T.k t)), (AV.int IntKind.i64 (T.n t)), (AV.str (T.s t)), (AV.slice 4 (tcellL (T.l t)) Cap.any)])] = [(AV.agg [(AV.int IntKind.i64 (T.k t1)), (AV.int IntKind.i64 (T.n t1)), (AV.str (T.s t1)), (AV.slice 4 (tcellL (T.l t1)) Cap.any)])]) ∧
 (((T.small t1) ∧
 (((SizeOf.sizeOf t1) : Nat) < (N))) ∧
 (((TV.v (AV.ptr 0 0)) = (TV.v (AV.ptr 0 0))) ∧
 (((TV.v (AV.ptr 0 0)) = (TV.v (AV.ptr 0 0))) ∧
 (((TV.v (AV.ptr 0 4)) = (TV.v (AV.ptr 0 4))) ∧
 ((((56 : Nat) ≤ 140737488355328) ∧
 ((1 : Nat) ≤ 4611686018427387904)) ∧
 ((((0 : Int) ≤ 0) ∧
 ((0 : Int) < 1)) ∧
 ((((4 : Nat) ≤ 4) ∧
 (((TV.v (AV.ptr 0 4)) = (TV.v (AV.ptr 0 4))) ∧
 (((TV.v (AV.ptr 0 4)) = (TV.v (AV.ptr 0 4))) ∧
 (bcase (((((BS.deal s) : Nat) : Int) : Int) == (IntKind.wrap IntKind.i64 ((((BS.came s) : Nat) : Int) + 1)))
 (((TV.v (AV.ptr 0 0)) = (TV.v (AV.ptr 0 0))) ∧
 (((TV.v (AV.ptr 0 0)) = (TV.v (AV.ptr 0 0))) ∧
 (((TV.v (AV.ptr 0 1)) = (TV.v (AV.ptr 0 1))) ∧
 (((TV.v (AV.int IntKind.i64 (IntKind.wrap IntKind.i64 ((((BS.came s) : Nat) : Int) + 1)))) = (TV.v (AV.int IntKind.i64 (IntKind.wrap IntKind.i64 ((((BS.came s) : Nat) : Int) + 1))))) ∧
 (((TV.v (AV.int IntKind.i64 (IntKind.wrap IntKind.i64 ((IntKind.wrap IntKind.i64 ((((BS.came s) : Nat) : Int) + 1)) - 1)))) = (TV.v (AV.int IntKind.i64 (IntKind.wrap IntKind.i64 ((IntKind.wrap IntKind.i64 ((((BS.came s) : Nat) : Int) + 1)) - 1))))) ∧
 (Q (AV.tuple [(AV.int IntKind.i64 (IntKind.wrap IntKind.i64 ((IntKind.wrap IntKind.i64 ((((BS.came s) : Nat) : Int) + 1)) - 1))), AV.nilslice, (AV.int IntKind.i64 0)]) (State.set (State.set (State.set (State.new (State.untok (State.untok (aloneN s))) (AObj.cells [(AV.int IntKind.i64 0), (AV.int IntKind.i64 0), (AV.str ⟨⟨[]⟩⟩), AV.nilslice] 37 4 true)) 1 (AObj.cells [(AV.int IntKind.i64 (T.k t1)), (AV.int IntKind.i64 (T.n t1)), (AV.str (T.s t1)), (AV.slice 4 (tcellL (T.l t1)) Cap.any)] 37 4 true)) 0 (AObj.cells [(AV.int IntKind.i64 (BS.room s)), (AV.int IntKind.i64 (((BS.came s) : Nat) : Int)), (AV.int IntKind.i64 (((BS.deal s) : Nat) : Int)), (AV.int IntKind.i64 (((BS.asked s) : Nat) : Int)), (AV.rslice 1 0 1), (AV.int IntKind.i64 0)] 129 6 false)) 0 (AObj.cells [(AV.int IntKind.i64 (BS.room s)), (AV.int IntKind.i64 (IntKind.wrap IntKind.i64 ((((BS.came s) : Nat) : Int) + 1))), (AV.int IntKind.i64 (((BS.deal s) : Nat) : Int)), (AV.int IntKind.i64 (((BS.asked s) : Nat) : Int)), (AV.rslice 1 0 1), (AV.int IntKind.i64 0)] 129 6 false))))))))
 (bcase (((((BS.deal s) : Nat) : Int) : Int) == (((BS.asked s) : Nat) : Int))
 (((TV.v (AV.ptr 0 0)) = (TV.v (AV.ptr 0 0))) ∧
 (((TV.v (AV.ptr 0 0)) = (TV.v (AV.ptr 0 0))) ∧
 (((TV.v (AV.ptr 0 1)) = (TV.v (AV.ptr 0 1))) ∧
 (((TV.v (AV.int IntKind.i64 (IntKind.wrap IntKind.i64 ((((BS.came s) : Nat) : Int) + 1)))) = (TV.v (AV.int IntKind.i64 (IntKind.wrap IntKind.i64 ((((BS.came s) : Nat) : Int) + 1))))) ∧
 (((TV.v (AV.int IntKind.i64 (IntKind.wrap IntKind.i64 ((IntKind.wrap IntKind.i64 ((((BS.came s) : Nat) : Int) + 1)) - 1)))) = (TV.v (AV.int IntKind.i64 (IntKind.wrap IntKind.i64 ((IntKind.wrap IntKind.i64 ((((BS.came s) : Nat) : Int) + 1)) - 1))))) ∧
 (Q (AV.tuple [(AV.int IntKind.i64 (IntKind.wrap IntKind.i64 ((IntKind.wrap IntKind.i64 ((((BS.came s) : Nat) : Int) + 1)) - 1))), AV.nilslice, (AV.int IntKind.i64 0)]) (State.set (State.set (State.set (State.new (State.untok (State.untok (aloneN s))) (AObj.cells [(AV.int IntKind.i64 0), (AV.int IntKind.i64 0), (AV.str ⟨⟨[]⟩⟩), AV.nilslice] 37 4 true)) 1 (AObj.cells [(AV.int IntKind.i64 (T.k t1)), (AV.int IntKind.i64 (T.n t1)), (AV.str (T.s t1)), (AV.slice 4 (tcellL (T.l t1)) Cap.any)] 37 4 true)) 0 (AObj.cells [(AV.int IntKind.i64 (BS.room s)), (AV.int IntKind.i64 (((BS.came s) : Nat) : Int)), (AV.int IntKind.i64 (((BS.deal s) : Nat) : Int)), (AV.int IntKind.i64 (((BS.asked s) : Nat) : Int)), (AV.rslice 1 0 1), (AV.int IntKind.i64 0)] 129 6 false)) 0 (AObj.cells [(AV.int IntKind.i64 (BS.room s)), (AV.int IntKind.i64 (IntKind.wrap IntKind.i64 ((((BS.came s) : Nat) : Int) + 1))), (AV.int IntKind.i64 (((BS.deal s) : Nat) : Int)), (AV.int IntKind.i64 (((BS.asked s) : Nat) : Int)), (AV.rslice 1 0 1), (AV.int IntKind.i64 0)] 129 6 false))))))))
 ((((0 : Int) ≤ 0) ∧
 ((0 : Int) < 1)) ∧
 (((4 : Nat) ≤ 4) ∧
 (∃ x2 : T, (((AV.agg [(AV.int IntKind.i64 (T.k t1)), (AV.int IntKind.i64 (T.n t1)), (AV.str (T.s t1)), (AV.slice 4 (tcellL (T.l t1)) Cap.any)]) = (AV.agg [(AV.int IntKind.i64 (T.k x2)), (AV.int IntKind.i64 (T.n x2)), (AV.str (T.s x2)), (AV.slice 4 (tcellL (T.l x2)) Cap.any)])) ∧
 (((TV.v (AV.ptr 0 4)) = (TV.v (AV.ptr 0 4))) ∧
 (((TV.v (AV.ptr 0 4)) = (TV.v (AV.ptr 0 4))) ∧
 (((TV.v (AV.ptr 0 4)) = (TV.v (AV.ptr 0 4))) ∧
 (((TV.v (AV.rslice 1 0 1)) = (TV.v (AV.rslice 1 0 1))) ∧
 (((TV.v (AV.ptr 0 4)) = (TV.v (AV.ptr 0 4))) ∧
 (((TV.v (AV.ptr 0 4)) = (TV.v (AV.ptr 0 4))) ∧
 (((TV.v (AV.ptr 0 5)) = (TV.v (AV.ptr 0 5))) ∧
 (((TV.v (AV.int IntKind.i64 0)) = (TV.v (AV.int IntKind.i64 0))) ∧
 (((((0 : Int) ≤ 0) ∧
 ((0 : Int) < 1)) ∧
 ((TV.v (AV.ptr 1 0)) = (TV.v (AV.ptr 1 0)))) ∧
 ((((4 : Nat) ≤ 4) ∧
 (∃ x3 : T, (((AV.agg [(AV.int IntKind.i64 (T.k t1)), (AV.int IntKind.i64 (T.n t1)), (AV.str (T.s t1)), (AV.slice 4 (tcellL (T.l t1)) Cap.any)]) = (AV.agg [(AV.int IntKind.i64 (T.k x3)), (AV.int IntKind.i64 (T.n x3)), (AV.str (T.s x3)), (AV.slice 4 (tcellL (T.l x3)) Cap.any)])) ∧
 ((TV.v (AV.agg [(AV.int IntKind.i64 (T.k x3)), (AV.int IntKind.i64 (T.n x3)), (AV.str (T.s x3)), (AV.slice 4 (tcellL (T.l x3)) Cap.any)])) = (TV.v (AV.agg [(AV.int IntKind.i64 (T.k x2)), (AV.int IntKind.i64 (T.n x2)), (AV.str (T.s x2)), (AV.slice 4 (tcellL (T.l x2)) Cap.any)])))))) ∧
 ((((0 : Int) ≤ 0) ∧
 ((0 : Int) < 1)) ∧
 (((4 : Nat) ≤ 4) ∧
 (((TV.v (AV.ptr 0 0)) = (TV.v (AV.ptr 0 0))) ∧
 (((TV.v (AV.ptr 0 0)) = (TV.v (AV.ptr 0 0))) ∧
 (((TV.v (AV.ptr 0 2)) = (TV.v (AV.ptr 0 2))) ∧
 (((TV.v (AV.int IntKind.i64 (IntKind.wrap IntKind.i64 ((((BS.deal s) : Nat) : Int) + 1)))) = (TV.v (AV.int IntKind.i64 (IntKind.wrap IntKind.i64 ((((BS.deal s) : Nat) : Int) + 1))))) ∧
 (((TV.v (AV.int IntKind.i64 (IntKind.wrap IntKind.i64 ((IntKind.wrap IntKind.i64 ((((BS.deal s) : Nat) : Int) + 1)) - 1)))) = (TV.v (AV.int IntKind.i64 (IntKind.wrap IntKind.i64 ((IntKind.wrap IntKind.i64 ((((BS.deal s) : Nat) : Int) + 1)) - 1))))) ∧
 (((TV.v (AV.ptr 0 0)) = (TV.v (AV.ptr 0 0))) ∧
 (((TV.v (AV.ptr 0 0)) = (TV.v (AV.ptr 0 0))) ∧
 (((TV.v (AV.ptr 0 2)) = (TV.v (AV.ptr 0 2))) ∧
 (((TV.v (AV.int IntKind.i64 (IntKind.wrap IntKind.i64 ((((BS.deal s) : Nat) : Int) + 1)))) = (TV.v (AV.int IntKind.i64 (IntKind.wrap IntKind.i64 ((((BS.deal s) : Nat) : Int) + 1))))) ∧
 (((TV.v (AV.int IntKind.i64 (IntKind.wrap IntKind.i64 ((IntKind.wrap IntKind.i64 ((((BS.deal s) : Nat) : Int) + 1)) - 1)))) = (TV.v (AV.int IntKind.i64 (IntKind.wrap IntKind.i64 ((IntKind.wrap IntKind.i64 ((((BS.deal s) : Nat) : Int) + 1)) - 1))))) ∧
 (((TV.v (AV.ptr 0 0)) = (TV.v (AV.ptr 0 0))) ∧
 (((TV.v (AV.ptr 0 0)) = (TV.v (AV.ptr 0 0))) ∧
 (((TV.v (AV.ptr 0 1)) = (TV.v (AV.ptr 0 1))) ∧
 (((TV.v (AV.int IntKind.i64 (IntKind.wrap IntKind.i64 ((((BS.came s) : Nat) : Int) + 1)))) = (TV.v (AV.int IntKind.i64 (IntKind.wrap IntKind.i64 ((((BS.came s) : Nat) : Int) + 1))))) ∧
 (((TV.v (AV.int IntKind.i64 (IntKind.wrap IntKind.i64 ((IntKind.wrap IntKind.i64 ((((BS.came s) : Nat) : Int) + 1)) - 1)))) = (TV.v (AV.int IntKind.i64 (IntKind.wrap IntKind.i64 ((IntKind.wrap IntKind.i64 ((((BS.came s) : Nat) : Int) + 1)) - 1))))) ∧
 (Q (AV.tuple [(AV.int IntKind.i64 (IntKind.wrap IntKind.i64 ((IntKind.wrap IntKind.i64 ((((BS.came s) : Nat) : Int) + 1)) - 1))), (AV.slice 6 [(AV.agg [(AV.int IntKind.i64 (IntKind.wrap IntKind.i64 ((IntKind.wrap IntKind.i64 ((((BS.deal s) : Nat) : Int) + 1)) - 1))), (AV.int IntKind.i64 (IntKind.wrap IntKind.i64 ((IntKind.wrap IntKind.i64 ((((BS.deal s) : Nat) : Int) + 1)) - 1))), (AV.int IntKind.i64 (T.k x2)), (AV.int IntKind.i64 (T.n x2)), (AV.str (T.s x2)), (AV.slice 4 (tcellL (T.l x2)) Cap.any)])] Cap.full), (AV.int IntKind.i64 0)]) (State.set (State.set (State.set (State.set (State.set (State.set (State.new (State.untok (State.untok (aloneN s))) (AObj.cells [(AV.int IntKind.i64 0), (AV.int IntKind.i64 0), (AV.str ⟨⟨[]⟩⟩), AV.nilslice] 37 4 true)) 1 (AObj.cells [(AV.int IntKind.i64 (T.k t1)), (AV.int IntKind.i64 (T.n t1)), (AV.str (T.s t1)), (AV.slice 4 (tcellL (T.l t1)) Cap.any)] 37 4 true)) 0 (AObj.cells [(AV.int IntKind.i64 (BS.room s)), (AV.int IntKind.i64 (((BS.came s) : Nat) : Int)), (AV.int IntKind.i64 (((BS.deal s) : Nat) : Int)), (AV.int IntKind.i64 (((BS.asked s) : Nat) : Int)), (AV.rslice 1 0 1), (AV.int IntKind.i64 0)] 129 6 false)) 0 (AObj.cells [(AV.int IntKind.i64 (BS.room s)), (AV.int IntKind.i64 (IntKind.wrap IntKind.i64 ((((BS.came s) : Nat) : Int) + 1))), (AV.int IntKind.i64 (((BS.deal s) : Nat) : Int)), (AV.int IntKind.i64 (((BS.asked s) : Nat) : Int)), (AV.rslice 1 0 1), (AV.int IntKind.i64 0)] 129 6 false)) 0 (AObj.cells [(AV.int IntKind.i64 (BS.room s)), (AV.int IntKind.i64 (IntKind.wrap IntKind.i64 ((((BS.came s) : Nat) : Int) + 1))), (AV.int IntKind.i64 (IntKind.wrap IntKind.i64 ((((BS.deal s) : Nat) : Int) + 1))), (AV.int IntKind.i64 (((BS.asked s) : Nat) : Int)), (AV.rslice 1 0 1), (AV.int IntKind.i64 0)] 129 6 false)) 1 (AObj.cells [(AV.int IntKind.i64 0), (AV.int IntKind.i64 0), (AV.str ⟨⟨[]⟩⟩), AV.nilslice] 37 4 true)) 0 (AObj.cells [(AV.int IntKind.i64 (BS.room s)), (AV.int IntKind.i64 (IntKind.wrap IntKind.i64 ((((BS.came s) : Nat) : Int) + 1))), (AV.int IntKind.i64 (IntKind.wrap IntKind.i64 ((((BS.deal s) : Nat) : Int) + 1))), (AV.int IntKind.i64 (((BS.asked s) : Nat) : Int)), (AV.rslice 1 0 1), (AV.int IntKind.i64 1)] 129 6 false))))))))))))))))))))))))))))))))))))))) ∧
 (((((0 : Int) ≤ 0) ∧
 ((0 : Int) < 1)) ∧
 ((TV.v (AV.ptr 1 0)) = (TV.v (AV.ptr 1 0)))) ∧
 (((4 : Nat) ≤ 4) ∧
 (bcase (((((BS.deal s) : Nat) : Int) : Int) == (IntKind.wrap IntKind.i64 ((((BS.came s) : Nat) : Int) + 1)))
 (((TV.v (AV.ptr 0 0)) = (TV.v (AV.ptr 0 0))) ∧
 (((TV.v (AV.ptr 0 0)) = (TV.v (AV.ptr 0 0))) ∧
 (((TV.v (AV.ptr 0 1)) = (TV.v (AV.ptr 0 1))) ∧
 (((TV.v (AV.int IntKind.i64 (IntKind.wrap IntKind.i64 ((((BS.came s) : Nat) : Int) + 1)))) = (TV.v (AV.int IntKind.i64 (IntKind.wrap IntKind.i64 ((((BS.came s) : Nat) : Int) + 1))))) ∧
 (((TV.v (AV.int IntKind.i64 (IntKind.wrap IntKind.i64 ((IntKind.wrap IntKind.i64 ((((BS.came s) : Nat) : Int) + 1)) - 1)))) = (TV.v (AV.int IntKind.i64 (IntKind.wrap IntKind.i64 ((IntKind.wrap IntKind.i64 ((((BS.came s) : Nat) : Int) + 1)) - 1))))) ∧
 (Q (AV.tuple [(AV.int IntKind.i64 (IntKind.wrap IntKind.i64 ((IntKind.wrap IntKind.i64 ((((BS.came s) : Nat) : Int) + 1)) - 1))), AV.nilslice, (AV.int IntKind.i64 0)]) (State.set (State.set (State.set (State.new (State.untok (State.untok (aloneN s))) (AObj.cells [(AV.int IntKind.i64 0), (AV.int IntKind.i64 0), (AV.str ⟨⟨[]⟩⟩), AV.nilslice] 37 4 true)) 0 (AObj.cells [(AV.int IntKind.i64 (BS.room s)), (AV.int IntKind.i64 (((BS.came s) : Nat) : Int)), (AV.int IntKind.i64 (((BS.deal s) : Nat) : Int)), (AV.int IntKind.i64 (((BS.asked s) : Nat) : Int)), (AV.rslice 1 0 1), (AV.int IntKind.i64 0)] 129 6 false)) 1 (AObj.cells [(AV.int IntKind.i64 (T.k t1)), (AV.int IntKind.i64 (T.n t1)), (AV.str (T.s t1)), (AV.slice 4 (tcellL (T.l t1)) Cap.any)] 37 4 true)) 0 (AObj.cells [(AV.int IntKind.i64 (BS.room s)), (AV.int IntKind.i64 (IntKind.wrap IntKind.i64 ((((BS.came s) : Nat) : Int) + 1))), (AV.int IntKind.i64 (((BS.deal s) : Nat) : Int)), (AV.int IntKind.i64 (((BS.asked s) : Nat) : Int)), (AV.rslice 1 0 1), (AV.int IntKind.i64 0)] 129 6 false))))))))
 (bcase (((((BS.deal s) : Nat) : Int) : Int) == (((BS.asked s) : Nat) : Int))
 (((TV.v (AV.ptr 0 0)) = (TV.v (AV.ptr 0 0))) ∧
 (((TV.v (AV.ptr 0 0)) = (TV.v (AV.ptr 0 0))) ∧
 (((TV.v (AV.ptr 0 1)) = (TV.v (AV.ptr 0 1))) ∧
 (((TV.v (AV.int IntKind.i64 (IntKind.wrap IntKind.i64 ((((BS.came s) : Nat) : Int) + 1)))) = (TV.v (AV.int IntKind.i64 (IntKind.wrap IntKind.i64 ((((BS.came s) : Nat) : Int) + 1))))) ∧
 (((TV.v (AV.int IntKind.i64 (IntKind.wrap IntKind.i64 ((IntKind.wrap IntKind.i64 ((((BS.came s) : Nat) : Int) + 1)) - 1)))) = (TV.v (AV.int IntKind.i64 (IntKind.wrap IntKind.i64 ((IntKind.wrap IntKind.i64 ((((BS.came s) : Nat) : Int) + 1)) - 1))))) ∧
 (Q (AV.tuple [(AV.int IntKind.i64 (IntKind.wrap IntKind.i64 ((IntKind.wrap IntKind.i64 ((((BS.came s) : Nat) : Int) + 1)) - 1))), AV.nilslice, (AV.int IntKind.i64 0)]) (State.set (State.set (State.set (State.new (State.untok (State.untok (aloneN s))) (AObj.cells [(AV.int IntKind.i64 0), (AV.int IntKind.i64 0), (AV.str ⟨⟨[]⟩⟩), AV.nilslice] 37 4 true)) 0 (AObj.cells [(AV.int IntKind.i64 (BS.room s)), (AV.int IntKind.i64 (((BS.came s) : Nat) : Int)), (AV.int IntKind.i64 (((BS.deal s) : Nat) : Int)), (AV.int IntKind.i64 (((BS.asked s) : Nat) : Int)), (AV.rslice 1 0 1), (AV.int IntKind.i64 0)] 129 6 false)) 1 (AObj.cells [(AV.int IntKind.i64 (T.k t1)), (AV.int IntKind.i64 (T.n t1)), (AV.str (T.s t1)), (AV.slice 4 (tcellL (T.l t1)) Cap.any)] 37 4 true)) 0 (AObj.cells [(AV.int IntKind.i64 (BS.room s)), (AV.int IntKind.i64 (IntKind.wrap IntKind.i64 ((((BS.came s) : Nat) : Int) + 1))), (AV.int IntKind.i64 (((BS.deal s) : Nat) : Int)), (AV.int IntKind.i64 (((BS.asked s) : Nat) : Int)), (AV.rslice 1 0 1), (AV.int IntKind.i64 0)] 129 6 false))))))))
 ((((0 : Int) ≤ 0) ∧
 ((0 : Int) < 1)) ∧
 (((4 : Nat) ≤ 4) ∧
 (∃ x2 : T, (((AV.agg [(AV.int IntKind.i64 (T.k t1)), (AV.int IntKind.i64 (T.n t1)), (AV.str (T.s t1)), (AV.slice 4 (tcellL (T.l t1)) Cap.any)]) = (AV.agg [(AV.int IntKind.i64 (T.k x2)), (AV.int IntKind.i64 (T.n x2)), (AV.str (T.s x2)), (AV.slice 4 (tcellL (T.l x2)) Cap.any)])) ∧
 (((TV.v (AV.ptr 0 4)) = (TV.v (AV.ptr 0 4))) ∧
 (((TV.v (AV.ptr 0 4)) = (TV.v (AV.ptr 0 4))) ∧
 (((TV.v (AV.ptr 0 4)) = (TV.v (AV.ptr 0 4))) ∧
 (((TV.v (AV.rslice 1 0 1)) = (TV.v (AV.rslice 1 0 1))) ∧
 (((TV.v (AV.ptr 0 4)) = (TV.v (AV.ptr 0 4))) ∧
 (((TV.v (AV.ptr 0 4)) = (TV.v (AV.ptr 0 4))) ∧
 (((TV.v (AV.ptr 0 5)) = (TV.v (AV.ptr 0 5))) ∧
 (((TV.v (AV.int IntKind.i64 0)) = (TV.v (AV.int IntKind.i64 0))) ∧
 (((((0 : Int) ≤ 0) ∧
 ((0 : Int) < 1)) ∧
 ((TV.v (AV.ptr 1 0)) = (TV.v (AV.ptr 1 0)))) ∧
 ((((4 : Nat) ≤ 4) ∧
 (∃ x3 : T, (((AV.agg [(AV.int IntKind.i64 (T.k t1)), (AV.int IntKind.i64 (T.n t1)), (AV.str (T.s t1)), (AV.slice 4 (tcellL (T.l t1)) Cap.any)]) = (AV.agg [(AV.int IntKind.i64 (T.k x3)), (AV.int IntKind.i64 (T.n x3)), (AV.str (T.s x3)), (AV.slice 4 (tcellL (T.l x3)) Cap.any)])) ∧
 ((TV.v (AV.agg [(AV.int IntKind.i64 (T.k x3)), (AV.int IntKind.i64 (T.n x3)), (AV.str (T.s x3)), (AV.slice 4 (tcellL (T.l x3)) Cap.any)])) = (TV.v (AV.agg [(AV.int IntKind.i64 (T.k x2)), (AV.int IntKind.i64 (T.n x2)), (AV.str (T.s x2)), (AV.slice 4 (tcellL (T.l x2)) Cap.any)])))))) ∧
 ((((0 : Int) ≤ 0) ∧
 ((0 : Int) < 1)) ∧
 (((4 : Nat) ≤ 4) ∧
 (((TV.v (AV.ptr 0 0)) = (TV.v (AV.ptr 0 0))) ∧
 (((TV.v (AV.ptr 0 0)) = (TV.v (AV.ptr 0 0))) ∧
 (((TV.v (AV.ptr 0 2)) = (TV.v (AV.ptr 0 2))) ∧
 (((TV.v (AV.int IntKind.i64 (IntKind.wrap IntKind.i64 ((((BS.deal s) : Nat) : Int) + 1)))) = (TV.v (AV.int IntKind.i64 (IntKind.wrap IntKind.i64 ((((BS.deal s) : Nat) : Int) + 1))))) ∧
 (((TV.v (AV.int IntKind.i64 (IntKind.wrap IntKind.i64 ((IntKind.wrap IntKind.i64 ((((BS.deal s) : Nat) : Int) + 1)) - 1)))) = (TV.v (AV.int IntKind.i64 (IntKind.wrap IntKind.i64 ((IntKind.wrap IntKind.i64 ((((BS.deal s) : Nat) : Int) + 1)) - 1))))) ∧
 (((TV.v (AV.ptr 0 0)) = (TV.v (AV.ptr 0 0))) ∧
 (((TV.v (AV.ptr 0 0)) = (TV.v (AV.ptr 0 0))) ∧
 (((TV.v (AV.ptr 0 2)) = (TV.v (AV.ptr 0 2))) ∧
 (((TV.v (AV.int IntKind.i64 (IntKind.wrap IntKind.i64 ((((BS.deal s) : Nat) : Int) + 1)))) = (TV.v (AV.int IntKind.i64 (IntKind.wrap IntKind.i64 ((((BS.deal s) : Nat) : Int) + 1))))) ∧
 (((TV.v (AV.int IntKind.i64 (IntKind.wrap IntKind.i64 ((IntKind.wrap IntKind.i64 ((((BS.deal s) : Nat) : Int) + 1)) - 1)))) = (TV.v (AV.int IntKind.i64 (IntKind.wrap IntKind.i64 ((IntKind.wrap IntKind.i64 ((((BS.deal s) : Nat) : Int) + 1)) - 1))))) ∧
 (((TV.v (AV.ptr 0 0)) = (TV.v (AV.ptr 0 0))) ∧
 (((TV.v (AV.ptr 0 0)) = (TV.v (AV.ptr 0 0))) ∧
 (((TV.v (AV.ptr 0 1)) = (TV.v (AV.ptr 0 1))) ∧
 (((TV.v (AV.int IntKind.i64 (IntKind.wrap IntKind.i64 ((((BS.came s) : Nat) : Int) + 1)))) = (TV.v (AV.int IntKind.i64 (IntKind.wrap IntKind.i64 ((((BS.came s) : Nat) : Int) + 1))))) ∧
 (((TV.v (AV.int IntKind.i64 (IntKind.wrap IntKind.i64 ((IntKind.wrap IntKind.i64 ((((BS.came s) : Nat) : Int) + 1)) - 1)))) = (TV.v (AV.int IntKind.i64 (IntKind.wrap IntKind.i64 ((IntKind.wrap IntKind.i64 ((((BS.came s) : Nat) : Int) + 1)) - 1))))) ∧
 (Q (AV.tuple [(AV.int IntKind.i64 (IntKind.wrap IntKind.i64 ((IntKind.wrap IntKind.i64 ((((BS.came s) : Nat) : Int) + 1)) - 1))), (AV.slice 6 [(AV.agg [(AV.int IntKind.i64 (IntKind.wrap IntKind.i64 ((IntKind.wrap IntKind.i64 ((((BS.deal s) : Nat) : Int) + 1)) - 1))), (AV.int IntKind.i64 (IntKind.wrap IntKind.i64 ((IntKind.wrap IntKind.i64 ((((BS.deal s) : Nat) : Int) + 1)) - 1))), (AV.int IntKind.i64 (T.k x2)), (AV.int IntKind.i64 (T.n x2)), (AV.str (T.s x2)), (AV.slice 4 (tcellL (T.l x2)) Cap.any)])] Cap.full), (AV.int IntKind.i64 0)]) (State.set (State.set (State.set (State.set (State.set (State.set (State.new (State.untok (State.untok (aloneN s))) (AObj.cells [(AV.int IntKind.i64 0), (AV.int IntKind.i64 0), (AV.str ⟨⟨[]⟩⟩), AV.nilslice] 37 4 true)) 0 (AObj.cells [(AV.int IntKind.i64 (BS.room s)), (AV.int IntKind.i64 (((BS.came s) : Nat) : Int)), (AV.int IntKind.i64 (((BS.deal s) : Nat) : Int)), (AV.int IntKind.i64 (((BS.asked s) : Nat) : Int)), (AV.rslice 1 0 1), (AV.int IntKind.i64 0)] 129 6 false)) 1 (AObj.cells [(AV.int IntKind.i64 (T.k t1)), (AV.int IntKind.i64 (T.n t1)), (AV.str (T.s t1)), (AV.slice 4 (tcellL (T.l t1)) Cap.any)] 37 4 true)) 0 (AObj.cells [(AV.int IntKind.i64 (BS.room s)), (AV.int IntKind.i64 (IntKind.wrap IntKind.i64 ((((BS.came s) : Nat) : Int) + 1))), (AV.int IntKind.i64 (((BS.deal s) : Nat) : Int)), (AV.int IntKind.i64 (((BS.asked s) : Nat) : Int)), (AV.rslice 1 0 1), (AV.int IntKind.i64 0)] 129 6 false)) 0 (AObj.cells [(AV.int IntKind.i64 (BS.room s)), (AV.int IntKind.i64 (IntKind.wrap IntKind.i64 ((((BS.came s) : Nat) : Int) + 1))), (AV.int IntKind.i64 (IntKind.wrap IntKind.i64 ((((BS.deal s) : Nat) : Int) + 1))), (AV.int IntKind.i64 (((BS.asked s) : Nat) : Int)), (AV.rslice 1 0 1), (AV.int IntKind.i64 0)] 129 6 false)) 1 (AObj.cells [(AV.int IntKind.i64 0), (AV.int IntKind.i64 0), (AV.str ⟨⟨[]⟩⟩), AV.nilslice] 37 4 true)) 0 (AObj.cells [(AV.int IntKind.i64 (BS.room s)), (AV.int IntKind.i64 (IntKind.wrap IntKind.i64 ((((BS.came s) : Nat) : Int) + 1))), (AV.int IntKind.i64 (IntKind.wrap IntKind.i64 ((((BS.deal s) : Nat) : Int) + 1))), (AV.int IntKind.i64 (((BS.asked s) : Nat) : Int)), (AV.rslice 1 0 1), (AV.int IntKind.i64 1)] 129 6 false)))))))))))))))))))))))))))))))))))))))))))))))))))) := by kernel_rfl
theorem vc24b (B : Nat) (w0 : World) (G : Nat → AV) (N : Nat) (t : T) (s : BS) (pre : List AV) (fr : Nat) (Q : AV → State → Prop) : (bodyC (EV B w0 G) (Hput (EV B w0 G) N) (fun _ _ _ _ => False) annA noHint 24 [.ptr 0 0, .agg (tc t)] (aloneR s pre fr) Q) =
 ((∃ t0 : T, (([(AV.agg [(AV.int IntKind.i64 (T.k t)), (AV.int IntKind.i64 (T.n t)), (AV.str (T.s t)), (AV.slice 4 (tcellL (T.l t)) Cap.any)])] = [(AV.agg [(AV.int IntKind.i64 (T.k t0)), (AV.int IntKind.i64 (T.n t0)), (AV.str (T.s t0)), (AV.slice 4 (tcellL (T.l t0)) Cap.any)])]) ∧
 (bcase (((chkT t0) : Int) != 0)
 (Q (AV.tuple [(AV.int IntKind.i64 0), AV.nilslice, (AV.int IntKind.i64 3)]) (State.untok (aloneR s pre fr)))
 (bcase (decide (((((BS.came s) : Nat) : Int) : Int) ≥ 20000))
 (Q (AV.tuple [(AV.int IntKind.i64 0), AV.nilslice, (AV.int IntKind.i64 91)]) (State.untok (aloneR s pre fr)))
 (∃ t1 : T, (([(AV.agg [(AV.int IntKind.i64 (T.k t)), (AV.int IntKind.i64 (T.n t)), (AV.str (T.s t)), (AV.slice 4 (tcellL (T.l t)) Cap.any)])] = [(AV.agg [(AV.int IntKind.i64 (T.k t1)), (AV.int IntKind.i64 (T.n t1)), (AV.str (T.s t1)), (AV.slice 4 (tcellL (T.l t1)) Cap.any)])]) ∧
 (((T.small t1) ∧
 (((SizeOf.sizeOf t1) : Nat) < (N))) ∧
 (((TV.v (AV.ptr 0 0)) = (TV.v (AV.ptr 0 0))) ∧
 (((TV.v (AV.ptr 0 0)) = (TV.v (AV.ptr 0 0))) ∧
 (((TV.v (AV.ptr 0 4)) = (TV.v (AV.ptr 0 4))) ∧
 ((((0 : Nat) = 0) ∧
 ((((((((fr) + (List.length (BS.pend s))) + 1) * 56) : Nat) ≤ 140737488355328) ∧
 (((((fr) + (List.length (BS.pend s))) + 1) : Nat) ≤ 4611686018427387904)) ∧
 (((((fr) + (List.length (BS.pend s))) * 4) : Nat) ≤ (List.length ((pre) ++ (flat (tcellL (BS.pend s)))))))) ∧
 ((((0 : Int) ≤ ((((fr) + (List.length (BS.pend s))) : Nat) : Int)) ∧
 ((((((fr) + (List.length (BS.pend s))) : Nat) : Int) : Int) < (((((fr) + (List.length (BS.pend s))) + 1) : Nat) : Int))) ∧
 (((((((0 + (Int.toNat ((((fr) + (List.length (BS.pend s))) : Nat) : Int))) * 4) + 4) : Nat) ≤ (List.length ((List.take (((fr) + (List.length (BS.pend s))) * 4) ((pre) ++ (flat (tcellL (BS.pend s))))) ++ [(AV.int IntKind.i64 0), (AV.int IntKind.i64 0), (AV.str ⟨⟨[]⟩⟩), AV.nilslice]))) ∧
 (((TV.v (AV.ptr 0 4)) = (TV.v (AV.ptr 0 4))) ∧
 (((TV.v (AV.ptr 0 4)) = (TV.v (AV.ptr 0 4))) ∧
 (bcase (((((BS.deal s) : Nat) : Int) : Int) == (IntKind.wrap IntKind.i64 ((((BS.came s) : Nat) : Int) + 1)))
 (((TV.v (AV.ptr 0 0)) = (TV.v (AV.ptr 0 0))) ∧
 (((TV.v (AV.ptr 0 0)) = (TV.v (AV.ptr 0 0))) ∧
 (((TV.v (AV.ptr 0 1)) = (TV.v (AV.ptr 0 1))) ∧
 (((TV.v (AV.int IntKind.i64 (IntKind.wrap IntKind.i64 ((((BS.came s) : Nat) : Int) + 1)))) = (TV.v (AV.int IntKind.i64 (IntKind.wrap IntKind.i64 ((((BS.came s) : Nat) : Int) + 1))))) ∧
 (((TV.v (AV.int IntKind.i64 (IntKind.wrap IntKind.i64 ((IntKind.wrap IntKind.i64 ((((BS.came s) : Nat) : Int) + 1)) - 1)))) = (TV.v (AV.int IntKind.i64 (IntKind.wrap IntKind.i64 ((IntKind.wrap IntKind.i64 ((((BS.came s) : Nat) : Int) + 1)) - 1))))) ∧
 (Q (AV.tuple [(AV.int IntKind.i64 (IntKind.wrap IntKind.i64 ((IntKind.wrap IntKind.i64 ((((BS.came s) : Nat) : Int) + 1)) - 1))), AV.nilslice, (AV.int IntKind.i64 0)]) (State.set (State.set (State.set (State.new (State.set (State.untok (State.untok (aloneR s pre fr))) 1 AObj.dead) (AObj.cells ((List.take (((fr) + (List.length (BS.pend s))) * 4) ((pre) ++ (flat (tcellL (BS.pend s))))) ++ [(AV.int IntKind.i64 0), (AV.int IntKind.i64 0), (AV.str ⟨⟨[]⟩⟩), AV.nilslice]) 37 4 true)) 2 (AObj.cells (asplice ((List.take (((fr) + (List.length (BS.pend s))) * 4) ((pre) ++ (flat (tcellL (BS.pend s))))) ++ [(AV.int IntKind.i64 0), (AV.int IntKind.i64 0), (AV.str ⟨⟨[]⟩⟩), AV.nilslice]) ((0 + (Int.toNat ((((fr) + (List.length (BS.pend s))) : Nat) : Int))) * 4) [(AV.int IntKind.i64 (T.k t1)), (AV.int IntKind.i64 (T.n t1)), (AV.str (T.s t1)), (AV.slice 4 (tcellL (T.l t1)) Cap.any)]) 37 4 true)) 0 (AObj.cells [(AV.int IntKind.i64 (BS.room s)), (AV.int IntKind.i64 (((BS.came s) : Nat) : Int)), (AV.int IntKind.i64 (((BS.deal s) : Nat) : Int)), (AV.int IntKind.i64 (((BS.asked s) : Nat) : Int)), (AV.rslice 2 0 (((fr) + (List.length (BS.pend s))) + 1)), (AV.int IntKind.i64 (((fr) : Nat) : Int))] 129 6 false)) 0 (AObj.cells [(AV.int IntKind.i64 (BS.room s)), (AV.int IntKind.i64 (IntKind.wrap IntKind.i64 ((((BS.came s) : Nat) : Int) + 1))), (AV.int IntKind.i64 (((BS.deal s) : Nat) : Int)), (AV.int IntKind.i64 (((BS.asked s) : Nat) : Int)), (AV.rslice 2 0 (((fr) + (List.length (BS.pend s))) + 1)), (AV.int IntKind.i64 (((fr) : Nat) : Int))] 129 6 false))))))))
 (bcase (((((BS.deal s) : Nat) : Int) : Int) == (((BS.asked s) : Nat) : Int))
 (((TV.v (AV.ptr 0 0)) = (TV.v (AV.ptr 0 0))) ∧
 (((TV.v (AV.ptr 0 0)) = (TV.v (AV.ptr 0 0))) ∧
 (((TV.v (AV.ptr 0 1)) = (TV.v (AV.ptr 0 1))) ∧
 (((TV.v (AV.int IntKind.i64 (IntKind.wrap IntKind.i64 ((((BS.came s) : Nat) : Int) + 1)))) = (TV.v (AV.int IntKind.i64 (IntKind.wrap IntKind.i64 ((((BS.came s) : Nat) : Int) + 1))))) ∧
 (((TV.v (AV.int IntKind.i64 (IntKind.wrap IntKind.i64 ((IntKind.wrap IntKind.i64 ((((BS.came s) : Nat) : Int) + 1)) - 1)))) = (TV.v (AV.int IntKind.i64 (IntKind.wrap IntKind.i64 ((IntKind.wrap IntKind.i64 ((((BS.came s) : Nat) : Int) + 1)) - 1))))) ∧
 (Q (AV.tuple [(AV.int IntKind.i64 (IntKind.wrap IntKind.i64 ((IntKind.wrap IntKind.i64 ((((BS.came s) : Nat) : Int) + 1)) - 1))), AV.nilslice, (AV.int IntKind.i64 0)]) (State.set (State.set (State.set (State.new (State.set (State.untok (State.untok (aloneR s pre fr))) 1 AObj.dead) (AObj.cells ((List.take (((fr) + (List.length (BS.pend s))) * 4) ((pre) ++ (flat (tcellL (BS.pend s))))) ++ [(AV.int IntKind.i64 0), (AV.int IntKind.i64 0), (AV.str ⟨⟨[]⟩⟩), AV.nilslice]) 37 4 true)) 2 (AObj.cells (asplice ((List.take (((fr) + (List.length (BS.pend s))) * 4) ((pre) ++ (flat (tcellL (BS.pend s))))) ++ [(AV.int IntKind.i64 0), (AV.int IntKind.i64 0), (AV.str ⟨⟨[]⟩⟩), AV.nilslice]) ((0 + (Int.toNat ((((fr) + (List.length (BS.pend s))) : Nat) : Int))) * 4) [(AV.int IntKind.i64 (T.k t1)), (AV.int IntKind.i64 (T.n t1)), (AV.str (T.s t1)), (AV.slice 4 (tcellL (T.l t1)) Cap.any)]) 37 4 true)) 0 (AObj.cells [(AV.int IntKind.i64 (BS.room s)), (AV.int IntKind.i64 (((BS.came s) : Nat) : Int)), (AV.int IntKind.i64 (((BS.deal s) : Nat) : Int)), (AV.int IntKind.i64 (((BS.asked s) : Nat) : Int)), (AV.rslice 2 0 (((fr) + (List.length (BS.pend s))) + 1)), (AV.int IntKind.i64 (((fr) : Nat) : Int))] 129 6 false)) 0 (AObj.cells [(AV.int IntKind.i64 (BS.room s)), (AV.int IntKind.i64 (IntKind.wrap IntKind.i64 ((((BS.came s) : Nat) : Int) + 1))), (AV.int IntKind.i64 (((BS.deal s) : Nat) : Int)), (AV.int IntKind.i64 (((BS.asked s) : Nat) : Int)), (AV.rslice 2 0 (((fr) + (List.length (BS.pend s))) + 1)), (AV.int IntKind.i64 (((fr) : Nat) : Int))] 129 6 false))))))))
 ((((0 : Int) ≤ (((fr) : Nat) : Int)) ∧
 (((((fr) : Nat) : Int) : Int) < (((((fr) + (List.length (BS.pend s))) + 1) : Nat) : Int))) ∧
 ((((((0 + (Int.toNat (((fr) : Nat) : Int))) * 4) + 4) : Nat) ≤ (List.length (asplice ((List.take (((fr) + (List.length (BS.pend s))) * 4) ((pre) ++ (flat (tcellL (BS.pend s))))) ++ [(AV.int IntKind.i64 0), (AV.int IntKind.i64 0), (AV.str ⟨⟨[]⟩⟩), AV.nilslice]) ((0 + (Int.toNat ((((fr) + (List.length (BS.pend s))) : Nat) : Int))) * 4) [(AV.int IntKind.i64 (T.k t1)), (AV.int IntKind.i64 (T.n t1)), (AV.str (T.s t1)), (AV.slice 4 (tcellL (T.l t1)) Cap.any)]))) ∧
 (∃ x2 : T, (((AV.agg (List.take 4 (List.drop ((0 + (Int.toNat (((fr) : Nat) : Int))) * 4) (asplice ((List.take (((fr) + (List.length (BS.pend s))) * 4) ((pre) ++ (flat (tcellL (BS.pend s))))) ++ [(AV.int IntKind.i64 0), (AV.int IntKind.i64 0), (AV.str ⟨⟨[]⟩⟩), AV.nilslice]) ((0 + (Int.toNat ((((fr) + (List.length (BS.pend s))) : Nat) : Int))) * 4) [(AV.int IntKind.i64 (T.k t1)), (AV.int IntKind.i64 (T.n t1)), (AV.str (T.s t1)), (AV.slice 4 (tcellL (T.l t1)) Cap.any)])))) = (AV.agg [(AV.int IntKind.i64 (T.k x2)), (AV.int IntKind.i64 (T.n x2)), (AV.str (T.s x2)), (AV.slice 4 (tcellL (T.l x2)) Cap.any)])) ∧
 (((TV.v (AV.ptr 0 4)) = (TV.v (AV.ptr 0 4))) ∧
 (((TV.v (AV.ptr 0 4)) = (TV.v (AV.ptr 0 4))) ∧
 (((TV.v (AV.ptr 0 4)) = (TV.v (AV.ptr 0 4))) ∧
 (((TV.v (AV.rslice 2 0 (((fr) + (List.length (BS.pend s))) + 1))) = (TV.v (AV.rslice 2 0 (((fr) + (List.length (BS.pend s))) + 1)))) ∧
 (((TV.v (AV.ptr 0 4)) = (TV.v (AV.ptr 0 4))) ∧
 (((TV.v (AV.ptr 0 4)) = (TV.v (AV.ptr 0 4))) ∧
 (((TV.v (AV.ptr 0 5)) = (TV.v (AV.ptr 0 5))) ∧
 (((TV.v (AV.int IntKind.i64 (((fr) : Nat) : Int))) = (TV.v (AV.int IntKind.i64 (((fr) : Nat) : Int)))) ∧
 (((((0 : Int) ≤ (((fr) : Nat) : Int)) ∧
 (((((fr) : Nat) : Int) : Int) < (((((fr) + (List.length (BS.pend s))) + 1) : Nat) : Int))) ∧
 ((TV.v (AV.ptr 2 ((0 + (Int.toNat (((fr) : Nat) : Int))) * 4))) = (TV.v (AV.ptr 2 ((0 + (Int.toNat (((fr) : Nat) : Int))) * 4))))) ∧
 (((((((0 + (Int.toNat (((fr) : Nat) : Int))) * 4) + 4) : Nat) ≤ (List.length (asplice ((List.take (((fr) + (List.length (BS.pend s))) * 4) ((pre) ++ (flat (tcellL (BS.pend s))))) ++ [(AV.int IntKind.i64 0), (AV.int IntKind.i64 0), (AV.str ⟨⟨[]⟩⟩), AV.nilslice]) ((0 + (Int.toNat ((((fr) + (List.length (BS.pend s))) : Nat) : Int))) * 4) [(AV.int IntKind.i64 (T.k t1)), (AV.int IntKind.i64 (T.n t1)), (AV.str (T.s t1)), (AV.slice 4 (tcellL (T.l t1)) Cap.any)]))) ∧
 (∃ x3 : T, (((AV.agg (List.take 4 (List.drop ((0 + (Int.toNat (((fr) : Nat) : Int))) * 4) (asplice ((List.take (((fr) + (List.length (BS.pend s))) * 4) ((pre) ++ (flat (tcellL (BS.pend s))))) ++ [(AV.int IntKind.i64 0), (AV.int IntKind.i64 0), (AV.str ⟨⟨[]⟩⟩), AV.nilslice]) ((0 + (Int.toNat ((((fr) + (List.length (BS.pend s))) : Nat) : Int))) * 4) [(AV.int IntKind.i64 (T.k t1)), (AV.int IntKind.i64 (T.n t1)), (AV.str (T.s t1)), (AV.slice 4 (tcellL (T.l t1)) Cap.any)])))) = (AV.agg [(AV.int IntKind.i64 (T.k x3)), (AV.int IntKind.i64 (T.n x3)), (AV.str (T.s x3)), (AV.slice 4 (tcellL (T.l x3)) Cap.any)])) ∧
 ((TV.v (AV.agg [(AV.int IntKind.i64 (T.k x3)), (AV.int IntKind.i64 (T.n x3)), (AV.str (T.s x3)), (AV.slice 4 (tcellL (T.l x3)) Cap.any)])) = (TV.v (AV.agg [(AV.int IntKind.i64 (T.k x2)), (AV.int IntKind.i64 (T.n x2)), (AV.str (T.s x2)), (AV.slice 4 (tcellL (T.l x2)) Cap.any)])))))) ∧
 ((((0 : Int) ≤ (((fr) : Nat) : Int)) ∧
 (((((fr) : Nat) : Int) : Int) < (((((fr) + (List.length (BS.pend s))) + 1) : Nat) : Int))) ∧
 ((((((0 + (Int.toNat (((fr) : Nat) : Int))) * 4) + 4) : Nat) ≤ (List.length (asplice ((List.take (((fr) + (List.length (BS.pend s))) * 4) ((pre) ++ (flat (tcellL (BS.pend s))))) ++ [(AV.int IntKind.i64 0), (AV.int IntKind.i64 0), (AV.str ⟨⟨[]⟩⟩), AV.nilslice]) ((0 + (Int.toNat ((((fr) + (List.length (BS.pend s))) : Nat) : Int))) * 4) [(AV.int IntKind.i64 (T.k t1)), (AV.int IntKind.i64 (T.n t1)), (AV.str (T.s t1)), (AV.slice 4 (tcellL (T.l t1)) Cap.any)]))) ∧
 (bcase (decide (((IntKind.wrap IntKind.i64 ((((fr) : Nat) : Int) + 1)) : Int) > 32))
 (bcase (decide (((IntKind.wrap IntKind.i64 (2 * (IntKind.wrap IntKind.i64 ((((fr) : Nat) : Int) + 1)))) : Int) > (((((fr) + (List.length (BS.pend s))) + 1) : Nat) : Int)))
 ((((0 : Int) ≤ (((((fr) + (List.length (BS.pend s))) + 1) : Nat) : Int)) ∧
 (((((((fr) + (List.length (BS.pend s))) + 1) : Nat) : Int) : Int) ≤ (((((fr) + (List.length (BS.pend s))) + 1) : Nat) : Int))) ∧
 ((((0 : Int) ≤ (((((fr) + (List.length (BS.pend s))) + 1) : Nat) : Int)) ∧
 (((((((fr) + (List.length (BS.pend s))) + 1) : Nat) : Int) : Int) ≤ (((Int.toNat (((((fr) + (List.length (BS.pend s))) + 1) : Nat) : Int)) : Nat) : Int))) ∧
 ((((0 : Int) ≤ (IntKind.wrap IntKind.i64 ((((fr) : Nat) : Int) + 1))) ∧
 (((IntKind.wrap IntKind.i64 ((((fr) : Nat) : Int) + 1)) : Int) ≤ (((Int.toNat (((((fr) + (List.length (BS.pend s))) + 1) : Nat) : Int)) : Nat) : Int))) ∧
 ((((((0 + (Int.toNat (IntKind.wrap IntKind.i64 ((((fr) : Nat) : Int) + 1)))) + ((Int.toNat (((((fr) + (List.length (BS.pend s))) + 1) : Nat) : Int)) - (Int.toNat (IntKind.wrap IntKind.i64 ((((fr) : Nat) : Int) + 1))))) * 4) : Nat) ≤ (List.length (asplice (asplice ((List.take (((fr) + (List.length (BS.pend s))) * 4) ((pre) ++ (flat (tcellL (BS.pend s))))) ++ [(AV.int IntKind.i64 0), (AV.int IntKind.i64 0), (AV.str ⟨⟨[]⟩⟩), AV.nilslice]) ((0 + (Int.toNat ((((fr) + (List.length (BS.pend s))) : Nat) : Int))) * 4) [(AV.int IntKind.i64 (T.k t1)), (AV.int IntKind.i64 (T.n t1)), (AV.str (T.s t1)), (AV.slice 4 (tcellL (T.l t1)) Cap.any)]) ((0 + (Int.toNat (((fr) : Nat) : Int))) * 4) [(AV.int IntKind.i64 0), (AV.int IntKind.i64 0), (AV.str ⟨⟨[]⟩⟩), AV.nilslice]))) ∧
 (bcase (List.isEmpty (chunk (Option.some 4) (List.take (((Int.toNat (((((fr) + (List.length (BS.pend s))) + 1) : Nat) : Int)) - (Int.toNat (IntKind.wrap IntKind.i64 ((((fr) : Nat) : Int) + 1)))) * 4) (List.drop ((0 + (Int.toNat (IntKind.wrap IntKind.i64 ((((fr) : Nat) : Int) + 1)))) * 4) (asplice (asplice ((List.take (((fr) + (List.length (BS.pend s))) * 4) ((pre) ++ (flat (tcellL (BS.pend s))))) ++ [(AV.int IntKind.i64 0), (AV.int IntKind.i64 0), (AV.str ⟨⟨[]⟩⟩), AV.nilslice]) ((0 + (Int.toNat ((((fr) + (List.length (BS.pend s))) : Nat) : Int))) * 4) [(AV.int IntKind.i64 (T.k t1)), (AV.int IntKind.i64 (T.n t1)), (AV.str (T.s t1)), (AV.slice 4 (tcellL (T.l t1)) Cap.any)]) ((0 + (Int.toNat (((fr) : Nat) : Int))) * 4) [(AV.int IntKind.i64 0), (AV.int IntKind.i64 0), (AV.str ⟨⟨[]⟩⟩), AV.nilslice]))) ((Int.toNat (((((fr) + (List.length (BS.pend s))) + 1) : Nat) : Int)) - (Int.toNat (IntKind.wrap IntKind.i64 ((((fr) : Nat) : Int) + 1))))))
 (((TV.v (AV.ptr 0 4)) = (TV.v (AV.ptr 0 4))) ∧
 (((TV.v (AV.ptr 0 4)) = (TV.v (AV.ptr 0 4))) ∧
 (((TV.v (AV.ptr 0 4)) = (TV.v (AV.ptr 0 4))) ∧
 (((TV.v (AV.ptr 0 0)) = (TV.v (AV.ptr 0 0))) ∧
 (((TV.v (AV.ptr 0 0)) = (TV.v (AV.ptr 0 0))) ∧
 (((TV.v (AV.ptr 0 2)) = (TV.v (AV.ptr 0 2))) ∧
 (((TV.v (AV.int IntKind.i64 (IntKind.wrap IntKind.i64 ((((BS.deal s) : Nat) : Int) + 1)))) = (TV.v (AV.int IntKind.i64 (IntKind.wrap IntKind.i64 ((((BS.deal s) : Nat) : Int) + 1))))) ∧
 (((TV.v (AV.int IntKind.i64 (IntKind.wrap IntKind.i64 ((IntKind.wrap IntKind.i64 ((((BS.deal s) : Nat) : Int) + 1)) - 1)))) = (TV.v (AV.int IntKind.i64 (IntKind.wrap IntKind.i64 ((IntKind.wrap IntKind.i64 ((((BS.deal s) : Nat) : Int) + 1)) - 1))))) ∧
 (((TV.v (AV.ptr 0 0)) = (TV.v (AV.ptr 0 0))) ∧
 (((TV.v (AV.ptr 0 0)) = (TV.v (AV.ptr 0 0))) ∧
 (((TV.v (AV.ptr 0 2)) = (TV.v (AV.ptr 0 2))) ∧
 (((TV.v (AV.int IntKind.i64 (IntKind.wrap IntKind.i64 ((((BS.deal s) : Nat) : Int) + 1)))) = (TV.v (AV.int IntKind.i64 (IntKind.wrap IntKind.i64 ((((BS.deal s) : Nat) : Int) + 1))))) ∧
 (((TV.v (AV.int IntKind.i64 (IntKind.wrap IntKind.i64 ((IntKind.wrap IntKind.i64 ((((BS.deal s) : Nat) : Int) + 1)) - 1)))) = (TV.v (AV.int IntKind.i64 (IntKind.wrap IntKind.i64 ((IntKind.wrap IntKind.i64 ((((BS.deal s) : Nat) : Int) + 1)) - 1))))) ∧
 (((TV.v (AV.ptr 0 0)) = (TV.v (AV.ptr 0 0))) ∧
 (((TV.v (AV.ptr 0 0)) = (TV.v (AV.ptr 0 0))) ∧
 (((TV.v (AV.ptr 0 1)) = (TV.v (AV.ptr 0 1))) ∧
 (((TV.v (AV.int IntKind.i64 (IntKind.wrap IntKind.i64 ((((BS.came s) : Nat) : Int) + 1)))) = (TV.v (AV.int IntKind.i64 (IntKind.wrap IntKind.i64 ((((BS.came s) : Nat) : Int) + 1))))) ∧
 (((TV.v (AV.int IntKind.i64 (IntKind.wrap IntKind.i64 ((IntKind.wrap IntKind.i64 ((((BS.came s) : Nat) : Int) + 1)) - 1)))) = (TV.v (AV.int IntKind.i64 (IntKind.wrap IntKind.i64 ((IntKind.wrap IntKind.i64 ((((BS.came s) : Nat) : Int) + 1)) - 1))))) ∧
 (Q (AV.tuple [(AV.int IntKind.i64 (IntKind.wrap IntKind.i64 ((IntKind.wrap IntKind.i64 ((((BS.came s) : Nat) : Int) + 1)) - 1))), (AV.slice 6 [(AV.agg [(AV.int IntKind.i64 (IntKind.wrap IntKind.i64 ((IntKind.wrap IntKind.i64 ((((BS.deal s) : Nat) : Int) + 1)) - 1))), (AV.int IntKind.i64 (IntKind.wrap IntKind.i64 ((IntKind.wrap IntKind.i64 ((((BS.deal s) : Nat) : Int) + 1)) - 1))), (AV.int IntKind.i64 (T.k x2)), (AV.int IntKind.i64 (T.n x2)), (AV.str (T.s x2)), (AV.slice 4 (tcellL (T.l x2)) Cap.any)])] Cap.full), (AV.int IntKind.i64 0)]) (State.set (State.set (State.set (State.set (State.set (State.set (State.set (State.set (State.new (State.set (State.untok (State.untok (aloneR s pre fr))) 1 AObj.dead) (AObj.cells ((List.take (((fr) + (List.length (BS.pend s))) * 4) ((pre) ++ (flat (tcellL (BS.pend s))))) ++ [(AV.int IntKind.i64 0), (AV.int IntKind.i64 0), (AV.str ⟨⟨[]⟩⟩), AV.nilslice]) 37 4 true)) 2 (AObj.cells (asplice ((List.take (((fr) + (List.length (BS.pend s))) * 4) ((pre) ++ (flat (tcellL (BS.pend s))))) ++ [(AV.int IntKind.i64 0), (AV.int IntKind.i64 0), (AV.str ⟨⟨[]⟩⟩), AV.nilslice]) ((0 + (Int.toNat ((((fr) + (List.length (BS.pend s))) : Nat) : Int))) * 4) [(AV.int IntKind.i64 (T.k t1)), (AV.int IntKind.i64 (T.n t1)), (AV.str (T.s t1)), (AV.slice 4 (tcellL (T.l t1)) Cap.any)]) 37 4 true)) 0 (AObj.cells [(AV.int IntKind.i64 (BS.room s)), (AV.int IntKind.i64 (((BS.came s) : Nat) : Int)), (AV.int IntKind.i64 (((BS.deal s) : Nat) : Int)), (AV.int IntKind.i64 (((BS.asked s) : Nat) : Int)), (AV.rslice 2 0 (((fr) + (List.length (BS.pend s))) + 1)), (AV.int IntKind.i64 (((fr) : Nat) : Int))] 129 6 false)) 0 (AObj.cells [(AV.int IntKind.i64 (BS.room s)), (AV.int IntKind.i64 (IntKind.wrap IntKind.i64 ((((BS.came s) : Nat) : Int) + 1))), (AV.int IntKind.i64 (((BS.deal s) : Nat) : Int)), (AV.int IntKind.i64 (((BS.asked s) : Nat) : Int)), (AV.rslice 2 0 (((fr) + (List.length (BS.pend s))) + 1)), (AV.int IntKind.i64 (((fr) : Nat) : Int))] 129 6 false)) 0 (AObj.cells [(AV.int IntKind.i64 (BS.room s)), (AV.int IntKind.i64 (IntKind.wrap IntKind.i64 ((((BS.came s) : Nat) : Int) + 1))), (AV.int IntKind.i64 (IntKind.wrap IntKind.i64 ((((BS.deal s) : Nat) : Int) + 1))), (AV.int IntKind.i64 (((BS.asked s) : Nat) : Int)), (AV.rslice 2 0 (((fr) + (List.length (BS.pend s))) + 1)), (AV.int IntKind.i64 (((fr) : Nat) : Int))] 129 6 false)) 2 (AObj.cells (asplice (asplice ((List.take (((fr) + (List.length (BS.pend s))) * 4) ((pre) ++ (flat (tcellL (BS.pend s))))) ++ [(AV.int IntKind.i64 0), (AV.int IntKind.i64 0), (AV.str ⟨⟨[]⟩⟩), AV.nilslice]) ((0 + (Int.toNat ((((fr) + (List.length (BS.pend s))) : Nat) : Int))) * 4) [(AV.int IntKind.i64 (T.k t1)), (AV.int IntKind.i64 (T.n t1)), (AV.str (T.s t1)), (AV.slice 4 (tcellL (T.l t1)) Cap.any)]) ((0 + (Int.toNat (((fr) : Nat) : Int))) * 4) [(AV.int IntKind.i64 0), (AV.int IntKind.i64 0), (AV.str ⟨⟨[]⟩⟩), AV.nilslice]) 37 4 true)) 0 (AObj.cells [(AV.int IntKind.i64 (BS.room s)), (AV.int IntKind.i64 (IntKind.wrap IntKind.i64 ((((BS.came s) : Nat) : Int) + 1))), (AV.int IntKind.i64 (IntKind.wrap IntKind.i64 ((((BS.deal s) : Nat) : Int) + 1))), (AV.int IntKind.i64 (((BS.asked s) : Nat) : Int)), (AV.rslice 2 0 (((fr) + (List.length (BS.pend s))) + 1)), (AV.int IntKind.i64 (IntKind.wrap IntKind.i64 ((((fr) : Nat) : Int) + 1)))] 129 6 false)) 0 (AObj.cells [(AV.int IntKind.i64 (BS.room s)), (AV.int IntKind.i64 (IntKind.wrap IntKind.i64 ((((BS.came s) : Nat) : Int) + 1))), (AV.int IntKind.i64 (IntKind.wrap IntKind.i64 ((((BS.deal s) : Nat) : Int) + 1))), (AV.int IntKind.i64 (((BS.asked s) : Nat) : Int)), AV.nilslice, (AV.int IntKind.i64 (IntKind.wrap IntKind.i64 ((((fr) : Nat) : Int) + 1)))] 129 6 false)) 0 (AObj.cells [(AV.int IntKind.i64 (BS.room s)), (AV.int IntKind.i64 (IntKind.wrap IntKind.i64 ((((BS.came s) : Nat) : Int) + 1))), (AV.int IntKind.i64 (IntKind.wrap IntKind.i64 ((((BS.deal s) : Nat) : Int) + 1))), (AV.int IntKind.i64 (((BS.asked s) : Nat) : Int)), AV.nilslice, (AV.int IntKind.i64 0)] 129 6 false)))))))))))))))))))))
 ((((((List.length (chunk (Option.some 4) (List.take (((Int.toNat (((((fr) + (List.length (BS.pend s))) + 1) : Nat) : Int)) - (Int.toNat (IntKind.wrap IntKind.i64 ((((fr) : Nat) : Int) + 1)))) * 4) (List.drop ((0 + (Int.toNat (IntKind.wrap IntKind.i64 ((((fr) : Nat) : Int) + 1)))) * 4) (asplice (asplice ((List.take (((fr) + (List.length (BS.pend s))) * 4) ((pre) ++ (flat (tcellL (BS.pend s))))) ++ [(AV.int IntKind.i64 0), (AV.int IntKind.i64 0), (AV.str ⟨⟨[]⟩⟩), AV.nilslice]) ((0 + (Int.toNat ((((fr) + (List.length (BS.pend s))) : Nat) : Int))) * 4) [(AV.int IntKind.i64 (T.k t1)), (AV.int IntKind.i64 (T.n t1)), (AV.str (T.s t1)), (AV.slice 4 (tcellL (T.l t1)) Cap.any)]) ((0 + (Int.toNat (((fr) : Nat) : Int))) * 4) [(AV.int IntKind.i64 0), (AV.int IntKind.i64 0), (AV.str ⟨⟨[]⟩⟩), AV.nilslice]))) ((Int.toNat (((((fr) + (List.length (BS.pend s))) + 1) : Nat) : Int)) - (Int.toNat (IntKind.wrap IntKind.i64 ((((fr) : Nat) : Int) + 1)))))) * 56) : Nat) ≤ 140737488355328) ∧
 (((List.length (chunk (Option.some 4) (List.take (((Int.toNat (((((fr) + (List.length (BS.pend s))) + 1) : Nat) : Int)) - (Int.toNat (IntKind.wrap IntKind.i64 ((((fr) : Nat) : Int) + 1)))) * 4) (List.drop ((0 + (Int.toNat (IntKind.wrap IntKind.i64 ((((fr) : Nat) : Int) + 1)))) * 4) (asplice (asplice ((List.take (((fr) + (List.length (BS.pend s))) * 4) ((pre) ++ (flat (tcellL (BS.pend s))))) ++ [(AV.int IntKind.i64 0), (AV.int IntKind.i64 0), (AV.str ⟨⟨[]⟩⟩), AV.nilslice]) ((0 + (Int.toNat ((((fr) + (List.length (BS.pend s))) : Nat) : Int))) * 4) [(AV.int IntKind.i64 (T.k t1)), (AV.int IntKind.i64 (T.n t1)), (AV.str (T.s t1)), (AV.slice 4 (tcellL (T.l t1)) Cap.any)]) ((0 + (Int.toNat (((fr) : Nat) : Int))) * 4) [(AV.int IntKind.i64 0), (AV.int IntKind.i64 0), (AV.str ⟨⟨[]⟩⟩), AV.nilslice]))) ((Int.toNat (((((fr) + (List.length (BS.pend s))) + 1) : Nat) : Int)) - (Int.toNat (IntKind.wrap IntKind.i64 ((((fr) : Nat) : Int) + 1)))))) : Nat) ≤ 4611686018427387904)) ∧
 (((TV.v (AV.ptr 0 4)) = (TV.v (AV.ptr 0 4))) ∧
 (((TV.v (AV.ptr 0 4)) = (TV.v (AV.ptr 0 4))) ∧
 (((TV.v (AV.ptr 0 4)) = (TV.v (AV.ptr 0 4))) ∧
 (((TV.v (AV.ptr 0 0)) = (TV.v (AV.ptr 0 0))) ∧
 (((TV.v (AV.ptr 0 0)) = (TV.v (AV.ptr 0 0))) ∧
 (((TV.v (AV.ptr 0 2)) = (TV.v (AV.ptr 0 2))) ∧
 (((TV.v (AV.int IntKind.i64 (IntKind.wrap IntKind.i64 ((((BS.deal s) : Nat) : Int) + 1)))) = (TV.v (AV.int IntKind.i64 (IntKind.wrap IntKind.i64 ((((BS.deal s) : Nat) : Int) + 1))))) ∧
 (((TV.v (AV.int IntKind.i64 (IntKind.wrap IntKind.i64 ((IntKind.wrap IntKind.i64 ((((BS.deal s) : Nat) : Int) + 1)) - 1)))) = (TV.v (AV.int IntKind.i64 (IntKind.wrap IntKind.i64 ((IntKind.wrap IntKind.i64 ((((BS.deal s) : Nat) : Int) + 1)) - 1))))) ∧
 (((TV.v (AV.ptr 0 0)) = (TV.v (AV.ptr 0 0))) ∧
 (((TV.v (AV.ptr 0 0)) = (TV.v (AV.ptr 0 0))) ∧
 (((TV.v (AV.ptr 0 2)) = (TV.v (AV.ptr 0 2))) ∧
 (((TV.v (AV.int IntKind.i64 (IntKind.wrap IntKind.i64 ((((BS.deal s) : Nat) : Int) + 1)))) = (TV.v (AV.int IntKind.i64 (IntKind.wrap IntKind.i64 ((((BS.deal s) : Nat) : Int) + 1))))) ∧
 (((TV.v (AV.int IntKind.i64 (IntKind.wrap IntKind.i64 ((IntKind.wrap IntKind.i64 ((((BS.deal s) : Nat) : Int) + 1)) - 1)))) = (TV.v (AV.int IntKind.i64 (IntKind.wrap IntKind.i64 ((IntKind.wrap IntKind.i64 ((((BS.deal s) : Nat) : Int) + 1)) - 1))))) ∧
 (((TV.v (AV.ptr 0 0)) = (TV.v (AV.ptr 0 0))) ∧
 (((TV.v (AV.ptr 0 0)) = (TV.v (AV.ptr 0 0))) ∧
 (((TV.v (AV.ptr 0 1)) = (TV.v (AV.ptr 0 1))) ∧
 (((TV.v (AV.int IntKind.i64 (IntKind.wrap IntKind.i64 ((((BS.came s) : Nat) : Int) + 1)))) = (TV.v (AV.int IntKind.i64 (IntKind.wrap IntKind.i64 ((((BS.came s) : Nat) : Int) + 1))))) ∧
 (((TV.v (AV.int IntKind.i64 (IntKind.wrap IntKind.i64 ((IntKind.wrap IntKind.i64 ((((BS.came s) : Nat) : Int) + 1)) - 1)))) = (TV.v (AV.int IntKind.i64 (IntKind.wrap IntKind.i64 ((IntKind.wrap IntKind.i64 ((((BS.came s) : Nat) : Int) + 1)) - 1))))) ∧
 (Q (AV.tuple [(AV.int IntKind.i64 (IntKind.wrap IntKind.i64 ((IntKind.wrap IntKind.i64 ((((BS.came s) : Nat) : Int) + 1)) - 1))), (AV.slice 6 [(AV.agg [(AV.int IntKind.i64 (IntKind.wrap IntKind.i64 ((IntKind.wrap IntKind.i64 ((((BS.deal s) : Nat) : Int) + 1)) - 1))), (AV.int IntKind.i64 (IntKind.wrap IntKind.i64 ((IntKind.wrap IntKind.i64 ((((BS.deal s) : Nat) : Int) + 1)) - 1))), (AV.int IntKind.i64 (T.k x2)), (AV.int IntKind.i64 (T.n x2)), (AV.str (T.s x2)), (AV.slice 4 (tcellL (T.l x2)) Cap.any)])] Cap.full), (AV.int IntKind.i64 0)]) (State.set (State.set (State.new (State.set (State.set (State.set (State.set (State.set (State.set (State.new (State.set (State.untok (State.untok (aloneR s pre fr))) 1 AObj.dead) (AObj.cells ((List.take (((fr) + (List.length (BS.pend s))) * 4) ((pre) ++ (flat (tcellL (BS.pend s))))) ++ [(AV.int IntKind.i64 0), (AV.int IntKind.i64 0), (AV.str ⟨⟨[]⟩⟩), AV.nilslice]) 37 4 true)) 2 (AObj.cells (asplice ((List.take (((fr) + (List.length (BS.pend s))) * 4) ((pre) ++ (flat (tcellL (BS.pend s))))) ++ [(AV.int IntKind.i64 0), (AV.int IntKind.i64 0), (AV.str ⟨⟨[]⟩⟩), AV.nilslice]) ((0 + (Int.toNat ((((fr) + (List.length (BS.pend s))) : Nat) : Int))) * 4) [(AV.int IntKind.i64 (T.k t1)), (AV.int IntKind.i64 (T.n t1)), (AV.str (T.s t1)), (AV.slice 4 (tcellL (T.l t1)) Cap.any)]) 37 4 true)) 0 (AObj.cells [(AV.int IntKind.i64 (BS.room s)), (AV.int IntKind.i64 (((BS.came s) : Nat) : Int)), (AV.int IntKind.i64 (((BS.deal s) : Nat) : Int)), (AV.int IntKind.i64 (((BS.asked s) : Nat) : Int)), (AV.rslice 2 0 (((fr) + (List.length (BS.pend s))) + 1)), (AV.int IntKind.i64 (((fr) : Nat) : Int))] 129 6 false)) 0 (AObj.cells [(AV.int IntKind.i64 (BS.room s)), (AV.int IntKind.i64 (IntKind.wrap IntKind.i64 ((((BS.came s) : Nat) : Int) + 1))), (AV.int IntKind.i64 (((BS.deal s) : Nat) : Int)), (AV.int IntKind.i64 (((BS.asked s) : Nat) : Int)), (AV.rslice 2 0 (((fr) + (List.length (BS.pend s))) + 1)), (AV.int IntKind.i64 (((fr) : Nat) : Int))] 129 6 false)) 0 (AObj.cells [(AV.int IntKind.i64 (BS.room s)), (AV.int IntKind.i64 (IntKind.wrap IntKind.i64 ((((BS.came s) : Nat) : Int) + 1))), (AV.int IntKind.i64 (IntKind.wrap IntKind.i64 ((((BS.deal s) : Nat) : Int) + 1))), (AV.int IntKind.i64 (((BS.asked s) : Nat) : Int)), (AV.rslice 2 0 (((fr) + (List.length (BS.pend s))) + 1)), (AV.int IntKind.i64 (((fr) : Nat) : Int))] 129 6 false)) 2 (AObj.cells (asplice (asplice ((List.take (((fr) + (List.length (BS.pend s))) * 4) ((pre) ++ (flat (tcellL (BS.pend s))))) ++ [(AV.int IntKind.i64 0), (AV.int IntKind.i64 0), (AV.str ⟨⟨[]⟩⟩), AV.nilslice]) ((0 + (Int.toNat ((((fr) + (List.length (BS.pend s))) : Nat) : Int))) * 4) [(AV.int IntKind.i64 (T.k t1)), (AV.int IntKind.i64 (T.n t1)), (AV.str (T.s t1)), (AV.slice 4 (tcellL (T.l t1)) Cap.any)]) ((0 + (Int.toNat (((fr) : Nat) : Int))) * 4) [(AV.int IntKind.i64 0), (AV.int IntKind.i64 0), (AV.str ⟨⟨[]⟩⟩), AV.nilslice]) 37 4 true)) 0 (AObj.cells [(AV.int IntKind.i64 (BS.room s)), (AV.int IntKind.i64 (IntKind.wrap IntKind.i64 ((((BS.came s) : Nat) : Int) + 1))), (AV.int IntKind.i64 (IntKind.wrap IntKind.i64 ((((BS.deal s) : Nat) : Int) + 1))), (AV.int IntKind.i64 (((BS.asked s) : Nat) : Int)), (AV.rslice 2 0 (((fr) + (List.length (BS.pend s))) + 1)), (AV.int IntKind.i64 (IntKind.wrap IntKind.i64 ((((fr) : Nat) : Int) + 1)))] 129 6 false)) (AObj.cells (flat (chunk (Option.some 4) (List.take (((Int.toNat (((((fr) + (List.length (BS.pend s))) + 1) : Nat) : Int)) - (Int.toNat (IntKind.wrap IntKind.i64 ((((fr) : Nat) : Int) + 1)))) * 4) (List.drop ((0 + (Int.toNat (IntKind.wrap IntKind.i64 ((((fr) : Nat) : Int) + 1)))) * 4) (asplice (asplice ((List.take (((fr) + (List.length (BS.pend s))) * 4) ((pre) ++ (flat (tcellL (BS.pend s))))) ++ [(AV.int IntKind.i64 0), (AV.int IntKind.i64 0), (AV.str ⟨⟨[]⟩⟩), AV.nilslice]) ((0 + (Int.toNat ((((fr) + (List.length (BS.pend s))) : Nat) : Int))) * 4) [(AV.int IntKind.i64 (T.k t1)), (AV.int IntKind.i64 (T.n t1)), (AV.str (T.s t1)), (AV.slice 4 (tcellL (T.l t1)) Cap.any)]) ((0 + (Int.toNat (((fr) : Nat) : Int))) * 4) [(AV.int IntKind.i64 0), (AV.int IntKind.i64 0), (AV.str ⟨⟨[]⟩⟩), AV.nilslice]))) ((Int.toNat (((((fr) + (List.length (BS.pend s))) + 1) : Nat) : Int)) - (Int.toNat (IntKind.wrap IntKind.i64 ((((fr) : Nat) : Int) + 1)))))) 37 4 true)) 0 (AObj.cells [(AV.int IntKind.i64 (BS.room s)), (AV.int IntKind.i64 (IntKind.wrap IntKind.i64 ((((BS.came s) : Nat) : Int) + 1))), (AV.int IntKind.i64 (IntKind.wrap IntKind.i64 ((((BS.deal s) : Nat) : Int) + 1))), (AV.int IntKind.i64 (((BS.asked s) : Nat) : Int)), (AV.rslice 3 0 (List.length (chunk (Option.some 4) (List.take (((Int.toNat (((((fr) + (List.length (BS.pend s))) + 1) : Nat) : Int)) - (Int.toNat (IntKind.wrap IntKind.i64 ((((fr) : Nat) : Int) + 1)))) * 4) (List.drop ((0 + (Int.toNat (IntKind.wrap IntKind.i64 ((((fr) : Nat) : Int) + 1)))) * 4) (asplice (asplice ((List.take (((fr) + (List.length (BS.pend s))) * 4) ((pre) ++ (flat (tcellL (BS.pend s))))) ++ [(AV.int IntKind.i64 0), (AV.int IntKind.i64 0), (AV.str ⟨⟨[]⟩⟩), AV.nilslice]) ((0 + (Int.toNat ((((fr) + (List.length (BS.pend s))) : Nat) : Int))) * 4) [(AV.int IntKind.i64 (T.k t1)), (AV.int IntKind.i64 (T.n t1)), (AV.str (T.s t1)), (AV.slice 4 (tcellL (T.l t1)) Cap.any)]) ((0 + (Int.toNat (((fr) : Nat) : Int))) * 4) [(AV.int IntKind.i64 0), (AV.int IntKind.i64 0), (AV.str ⟨⟨[]⟩⟩), AV.nilslice]))) ((Int.toNat (((((fr) + (List.length (BS.pend s))) + 1) : Nat) : Int)) - (Int.toNat (IntKind.wrap IntKind.i64 ((((fr) : Nat) : Int) + 1))))))), (AV.int IntKind.i64 (IntKind.wrap IntKind.i64 ((((fr) : Nat) : Int) + 1)))] 129 6 false)) 0 (AObj.cells [(AV.int IntKind.i64 (BS.room s)), (AV.int IntKind.i64 (IntKind.wrap IntKind.i64 ((((BS.came s) : Nat) : Int) + 1))), (AV.int IntKind.i64 (IntKind.wrap IntKind.i64 ((((BS.deal s) : Nat) : Int) + 1))), (AV.int IntKind.i64 (((BS.asked s) : Nat) : Int)), (AV.rslice 3 0 (List.length (chunk (Option.some 4) (List.take (((Int.toNat (((((fr) + (List.length (BS.pend s))) + 1) : Nat) : Int)) - (Int.toNat (IntKind.wrap IntKind.i64 ((((fr) : Nat) : Int) + 1)))) * 4) (List.drop ((0 + (Int.toNat (IntKind.wrap IntKind.i64 ((((fr) : Nat) : Int) + 1)))) * 4) (asplice (asplice ((List.take (((fr) + (List.length (BS.pend s))) * 4) ((pre) ++ (flat (tcellL (BS.pend s))))) ++ [(AV.int IntKind.i64 0), (AV.int IntKind.i64 0), (AV.str ⟨⟨[]⟩⟩), AV.nilslice]) ((0 + (Int.toNat ((((fr) + (List.length (BS.pend s))) : Nat) : Int))) * 4) [(AV.int IntKind.i64 (T.k t1)), (AV.int IntKind.i64 (T.n t1)), (AV.str (T.s t1)), (AV.slice 4 (tcellL (T.l t1)) Cap.any)]) ((0 + (Int.toNat (((fr) : Nat) : Int))) * 4) [(AV.int IntKind.i64 0), (AV.int IntKind.i64 0), (AV.str ⟨⟨[]⟩⟩), AV.nilslice]))) ((Int.toNat (((((fr) + (List.length (BS.pend s))) + 1) : Nat) : Int)) - (Int.toNat (IntKind.wrap IntKind.i64 ((((fr) : Nat) : Int) + 1))))))), (AV.int IntKind.i64 0)] 129 6 false)))))))))))))))))))))))))))
 (((TV.v (AV.ptr 0 0)) = (TV.v (AV.ptr 0 0))) ∧
 (((TV.v (AV.ptr 0 0)) = (TV.v (AV.ptr 0 0))) ∧
 (((TV.v (AV.ptr 0 2)) = (TV.v (AV.ptr 0 2))) ∧
 (((TV.v (AV.int IntKind.i64 (IntKind.wrap IntKind.i64 ((((BS.deal s) : Nat) : Int) + 1)))) = (TV.v (AV.int IntKind.i64 (IntKind.wrap IntKind.i64 ((((BS.deal s) : Nat) : Int) + 1))))) ∧
 (((TV.v (AV.int IntKind.i64 (IntKind.wrap IntKind.i64 ((IntKind.wrap IntKind.i64 ((((BS.deal s) : Nat) : Int) + 1)) - 1)))) = (TV.v (AV.int IntKind.i64 (IntKind.wrap IntKind.i64 ((IntKind.wrap IntKind.i64 ((((BS.deal s) : Nat) : Int) + 1)) - 1))))) ∧
 (((TV.v (AV.ptr 0 0)) = (TV.v (AV.ptr 0 0))) ∧
 (((TV.v (AV.ptr 0 0)) = (TV.v (AV.ptr 0 0))) ∧
 (((TV.v (AV.ptr 0 2)) = (TV.v (AV.ptr 0 2))) ∧
 (((TV.v (AV.int IntKind.i64 (IntKind.wrap IntKind.i64 ((((BS.deal s) : Nat) : Int) + 1)))) = (TV.v (AV.int IntKind.i64 (IntKind.wrap IntKind.i64 ((((BS.deal s) : Nat) : Int) + 1))))) ∧
 (((TV.v (AV.int IntKind.i64 (IntKind.wrap IntKind.i64 ((IntKind.wrap IntKind.i64 ((((BS.deal s) : Nat) : Int) + 1)) - 1)))) = (TV.v (AV.int IntKind.i64 (IntKind.wrap IntKind.i64 ((IntKind.wrap IntKind.i64 ((((BS.deal s) : Nat) : Int) + 1)) - 1))))) ∧
 (((TV.v (AV.ptr 0 0)) = (TV.v (AV.ptr 0 0))) ∧
 (((TV.v (AV.ptr 0 0)) = (TV.v (AV.ptr 0 0))) ∧
 (((TV.v (AV.ptr 0 1)) = (TV.v (AV.ptr 0 1))) ∧
 (((TV.v (AV.int IntKind.i64 (IntKind.wrap IntKind.i64 ((((BS.came s) : Nat) : Int) + 1)))) = (TV.v (AV.int IntKind.i64 (IntKind.wrap IntKind.i64 ((((BS.came s) : Nat) : Int) + 1))))) ∧
 (((TV.v (AV.int IntKind.i64 (IntKind.wrap IntKind.i64 ((IntKind.wrap IntKind.i64 ((((BS.came s) : Nat) : Int) + 1)) - 1)))) = (TV.v (AV.int IntKind.i64 (IntKind.wrap IntKind.i64 ((IntKind.wrap IntKind.i64 ((((BS.came s) : Nat) : Int) + 1)) - 1))))) ∧
 (Q (AV.tuple [(AV.int IntKind.i64 (IntKind.wrap IntKind.i64 ((IntKind.wrap IntKind.i64 ((((BS.came s) : Nat) : Int) + 1)) - 1))), (AV.slice 6 [(AV.agg [(AV.int IntKind.i64 (IntKind.wrap IntKind.i64 ((IntKind.wrap IntKind.i64 ((((BS.deal s) : Nat) : Int) + 1)) - 1))), (AV.int IntKind.i64 (IntKind.wrap IntKind.i64 ((IntKind.wrap IntKind.i64 ((((BS.deal s) : Nat) : Int) + 1)) - 1))), (AV.int IntKind.i64 (T.k x2)), (AV.int IntKind.i64 (T.n x2)), (AV.str (T.s x2)), (AV.slice 4 (tcellL (T.l x2)) Cap.any)])] Cap.full), (AV.int IntKind.i64 0)]) (State.set (State.set (State.set (State.set (State.set (State.set (State.new (State.set (State.untok (State.untok (aloneR s pre fr))) 1 AObj.dead) (AObj.cells ((List.take (((fr) + (List.length (BS.pend s))) * 4) ((pre) ++ (flat (tcellL (BS.pend s))))) ++ [(AV.int IntKind.i64 0), (AV.int IntKind.i64 0), (AV.str ⟨⟨[]⟩⟩), AV.nilslice]) 37 4 true)) 2 (AObj.cells (asplice ((List.take (((fr) + (List.length (BS.pend s))) * 4) ((pre) ++ (flat (tcellL (BS.pend s))))) ++ [(AV.int IntKind.i64 0), (AV.int IntKind.i64 0), (AV.str ⟨⟨[]⟩⟩), AV.nilslice]) ((0 + (Int.toNat ((((fr) + (List.length (BS.pend s))) : Nat) : Int))) * 4) [(AV.int IntKind.i64 (T.k t1)), (AV.int IntKind.i64 (T.n t1)), (AV.str (T.s t1)), (AV.slice 4 (tcellL (T.l t1)) Cap.any)]) 37 4 true)) 0 (AObj.cells [(AV.int IntKind.i64 (BS.room s)), (AV.int IntKind.i64 (((BS.came s) : Nat) : Int)), (AV.int IntKind.i64 (((BS.deal s) : Nat) : Int)), (AV.int IntKind.i64 (((BS.asked s) : Nat) : Int)), (AV.rslice 2 0 (((fr) + (List.length (BS.pend s))) + 1)), (AV.int IntKind.i64 (((fr) : Nat) : Int))] 129 6 false)) 0 (AObj.cells [(AV.int IntKind.i64 (BS.room s)), (AV.int IntKind.i64 (IntKind.wrap IntKind.i64 ((((BS.came s) : Nat) : Int) + 1))), (AV.int IntKind.i64 (((BS.deal s) : Nat) : Int)), (AV.int IntKind.i64 (((BS.asked s) : Nat) : Int)), (AV.rslice 2 0 (((fr) + (List.length (BS.pend s))) + 1)), (AV.int IntKind.i64 (((fr) : Nat) : Int))] 129 6 false)) 0 (AObj.cells [(AV.int IntKind.i64 (BS.room s)), (AV.int IntKind.i64 (IntKind.wrap IntKind.i64 ((((BS.came s) : Nat) : Int) + 1))), (AV.int IntKind.i64 (IntKind.wrap IntKind.i64 ((((BS.deal s) : Nat) : Int) + 1))), (AV.int IntKind.i64 (((BS.asked s) : Nat) : Int)), (AV.rslice 2 0 (((fr) + (List.length (BS.pend s))) + 1)), (AV.int IntKind.i64 (((fr) : Nat) : Int))] 129 6 false)) 2 (AObj.cells (asplice (asplice ((List.take (((fr) + (List.length (BS.pend s))) * 4) ((pre) ++ (flat (tcellL (BS.pend s))))) ++ [(AV.int IntKind.i64 0), (AV.int IntKind.i64 0), (AV.str ⟨⟨[]⟩⟩), AV.nilslice]) ((0 + (Int.toNat ((((fr) + (List.length (BS.pend s))) : Nat) : Int))) * 4) [(AV.int IntKind.i64 (T.k t1)), (AV.int IntKind.i64 (T.n t1)), (AV.str (T.s t1)), (AV.slice 4 (tcellL (T.l t1)) Cap.any)]) ((0 + (Int.toNat (((fr) : Nat) : Int))) * 4) [(AV.int IntKind.i64 0), (AV.int IntKind.i64 0), (AV.str ⟨⟨[]⟩⟩), AV.nilslice]) 37 4 true)) 0 (AObj.cells [(AV.int IntKind.i64 (BS.room s)), (AV.int IntKind.i64 (IntKind.wrap IntKind.i64 ((((BS.came s) : Nat) : Int) + 1))), (AV.int IntKind.i64 (IntKind.wrap IntKind.i64 ((((BS.deal s) : Nat) : Int) + 1))), (AV.int IntKind.i64 (((BS.asked s) : Nat) : Int)), (AV.rslice 2 0 (((fr) + (List.length (BS.pend s))) + 1)), (AV.int IntKind.i64 (IntKind.wrap IntKind.i64 ((((fr) : Nat) : Int) + 1)))] 129 6 false)))))))))))))))))))
 (((TV.v (AV.ptr 0 0)) = (TV.v (AV.ptr 0 0))) ∧
 (((TV.v (AV.ptr 0 0)) = (TV.v (AV.ptr 0 0))) ∧
 (((TV.v (AV.ptr 0 2)) = (TV.v (AV.ptr 0 2))) ∧
 (((TV.v (AV.int IntKind.i64 (IntKind.wrap IntKind.i64 ((((BS.deal s) : Nat) : Int) + 1)))) = (TV.v (AV.int IntKind.i64 (IntKind.wrap IntKind.i64 ((((BS.deal s) : Nat) : Int) + 1))))) ∧
 (((TV.v (AV.int IntKind.i64 (IntKind.wrap IntKind.i64 ((IntKind.wrap IntKind.i64 ((((BS.deal s) : Nat) : Int) + 1)) - 1)))) = (TV.v (AV.int IntKind.i64 (IntKind.wrap IntKind.i64 ((IntKind.wrap IntKind.i64 ((((BS.deal s) : Nat) : Int) + 1)) - 1))))) ∧
 (((TV.v (AV.ptr 0 0)) = (TV.v (AV.ptr 0 0))) ∧
 (((TV.v (AV.ptr 0 0)) = (TV.v (AV.ptr 0 0))) ∧
 (((TV.v (AV.ptr 0 2)) = (TV.v (AV.ptr 0 2))) ∧
 (((TV.v (AV.int IntKind.i64 (IntKind.wrap IntKind.i64 ((((BS.deal s) : Nat) : Int) + 1)))) = (TV.v (AV.int IntKind.i64 (IntKind.wrap IntKind.i64 ((((BS.deal s) : Nat) : Int) + 1))))) ∧
 (((TV.v (AV.int IntKind.i64 (IntKind.wrap IntKind.i64 ((IntKind.wrap IntKind.i64 ((((BS.deal s) : Nat) : Int) + 1)) - 1)))) = (TV.v (AV.int IntKind.i64 (IntKind.wrap IntKind.i64 ((IntKind.wrap IntKind.i64 ((((BS.deal s) : Nat) : Int) + 1)) - 1))))) ∧
 (((TV.v (AV.ptr 0 0)) = (TV.v (AV.ptr 0 0))) ∧
 (((TV.v (AV.ptr 0 0)) = (TV.v (AV.ptr 0 0))) ∧
 (((TV.v (AV.ptr 0 1)) = (TV.v (AV.ptr 0 1))) ∧
 (((TV.v (AV.int IntKind.i64 (IntKind.wrap IntKind.i64 ((((BS.came s) : Nat) : Int) + 1)))) = (TV.v (AV.int IntKind.i64 (IntKind.wrap IntKind.i64 ((((BS.came s) : Nat) : Int) + 1))))) ∧
 (((TV.v (AV.int IntKind.i64 (IntKind.wrap IntKind.i64 ((IntKind.wrap IntKind.i64 ((((BS.came s) : Nat) : Int) + 1)) - 1)))) = (TV.v (AV.int IntKind.i64 (IntKind.wrap IntKind.i64 ((IntKind.wrap IntKind.i64 ((((BS.came s) : Nat) : Int) + 1)) - 1))))) ∧
 (Q (AV.tuple [(AV.int IntKind.i64 (IntKind.wrap IntKind.i64 ((IntKind.wrap IntKind.i64 ((((BS.came s) : Nat) : Int) + 1)) - 1))), (AV.slice 6 [(AV.agg [(AV.int IntKind.i64 (IntKind.wrap IntKind.i64 ((IntKind.wrap IntKind.i64 ((((BS.deal s) : Nat) : Int) + 1)) - 1))), (AV.int IntKind.i64 (IntKind.wrap IntKind.i64 ((IntKind.wrap IntKind.i64 ((((BS.deal s) : Nat) : Int) + 1)) - 1))), (AV.int IntKind.i64 (T.k x2)), (AV.int IntKind.i64 (T.n x2)), (AV.str (T.s x2)), (AV.slice 4 (tcellL (T.l x2)) Cap.any)])] Cap.full), (AV.int IntKind.i64 0)]) (State.set (State.set (State.set (State.set (State.set (State.set (State.new (State.set (State.untok (State.untok (aloneR s pre fr))) 1 AObj.dead) (AObj.cells ((List.take (((fr) + (List.length (BS.pend s))) * 4) ((pre) ++ (flat (tcellL (BS.pend s))))) ++ [(AV.int IntKind.i64 0), (AV.int IntKind.i64 0), (AV.str ⟨⟨[]⟩⟩), AV.nilslice]) 37 4 true)) 2 (AObj.cells (asplice ((List.take (((fr) + (List.length (BS.pend s))) * 4) ((pre) ++ (flat (tcellL (BS.pend s))))) ++ [(AV.int IntKind.i64 0), (AV.int IntKind.i64 0), (AV.str ⟨⟨[]⟩⟩), AV.nilslice]) ((0 + (Int.toNat ((((fr) + (List.length (BS.pend s))) : Nat) : Int))) * 4) [(AV.int IntKind.i64 (T.k t1)), (AV.int IntKind.i64 (T.n t1)), (AV.str (T.s t1)), (AV.slice 4 (tcellL (T.l t1)) Cap.any)]) 37 4 true)) 0 (AObj.cells [(AV.int IntKind.i64 (BS.room s)), (AV.int IntKind.i64 (((BS.came s) : Nat) : Int)), (AV.int IntKind.i64 (((BS.deal s) : Nat) : Int)), (AV.int IntKind.i64 (((BS.asked s) : Nat) : Int)), (AV.rslice 2 0 (((fr) + (List.length (BS.pend s))) + 1)), (AV.int IntKind.i64 (((fr) : Nat) : Int))] 129 6 false)) 0 (AObj.cells [(AV.int IntKind.i64 (BS.room s)), (AV.int IntKind.i64 (IntKind.wrap IntKind.i64 ((((BS.came s) : Nat) : Int) + 1))), (AV.int IntKind.i64 (((BS.deal s) : Nat) : Int)), (AV.int IntKind.i64 (((BS.asked s) : Nat) : Int)), (AV.rslice 2 0 (((fr) + (List.length (BS.pend s))) + 1)), (AV.int IntKind.i64 (((fr) : Nat) : Int))] 129 6 false)) 0 (AObj.cells [(AV.int IntKind.i64 (BS.room s)), (AV.int IntKind.i64 (IntKind.wrap IntKind.i64 ((((BS.came s) : Nat) : Int) + 1))), (AV.int IntKind.i64 (IntKind.wrap IntKind.i64 ((((BS.deal s) : Nat) : Int) + 1))), (AV.int IntKind.i64 (((BS.asked s) : Nat) : Int)), (AV.rslice 2 0 (((fr) + (List.length (BS.pend s))) + 1)), (AV.int IntKind.i64 (((fr) : Nat) : Int))] 129 6 false)) 2 (AObj.cells (asplice (asplice ((List.take (((fr) + (List.length (BS.pend s))) * 4) ((pre) ++ (flat (tcellL (BS.pend s))))) ++ [(AV.int IntKind.i64 0), (AV.int IntKind.i64 0), (AV.str ⟨⟨[]⟩⟩), AV.nilslice]) ((0 + (Int.toNat ((((fr) + (List.length (BS.pend s))) : Nat) : Int))) * 4) [(AV.int IntKind.i64 (T.k t1)), (AV.int IntKind.i64 (T.n t1)), (AV.str (T.s t1)), (AV.slice 4 (tcellL (T.l t1)) Cap.any)]) ((0 + (Int.toNat (((fr) : Nat) : Int))) * 4) [(AV.int IntKind.i64 0), (AV.int IntKind.i64 0), (AV.str ⟨⟨[]⟩⟩), AV.nilslice]) 37 4 true)) 0 (AObj.cells [(AV.int IntKind.i64 (BS.room s)), (AV.int IntKind.i64 (IntKind.wrap IntKind.i64 ((((BS.came s) : Nat) : Int) + 1))), (AV.int IntKind.i64 (IntKind.wrap IntKind.i64 ((((BS.deal s) : Nat) : Int) + 1))), (AV.int IntKind.i64 (((BS.asked s) : Nat) : Int)), (AV.rslice 2 0 (((fr) + (List.length (BS.pend s))) + 1)), (AV.int IntKind.i64 (IntKind.wrap IntKind.i64 ((((fr) : Nat) : Int) + 1)))] 129 6 false)))))))))))))))))))))))))))))))))))))))) ∧
 (((((0 : Int) ≤ ((((fr) + (List.length (BS.pend s))) : Nat) : Int)) ∧
 ((((((fr) + (List.length (BS.pend s))) : Nat) : Int) : Int) < (((((fr) + (List.length (BS.pend s))) + 1) : Nat) : Int))) ∧
 ((TV.v (AV.ptr 2 ((0 + (Int.toNat ((((fr) + (List.length (BS.pend s))) : Nat) : Int))) * 4))) = (TV.v (AV.ptr 2 ((0 + (Int.toNat ((((fr) + (List.length (BS.pend s))) : Nat) : Int))) * 4))))) ∧
 ((((((0 + (Int.toNat ((((fr) + (List.length (BS.pend s))) : Nat) : Int))) * 4) + 4) : Nat) ≤ (List.length ((List.take (((fr) + (List.length (BS.pend s))) * 4) ((pre) ++ (flat (tcellL (BS.pend s))))) ++ [(AV.int IntKind.i64 0), (AV.int IntKind.i64 0), (AV.str ⟨⟨[]⟩⟩), AV.nilslice]))) ∧
 (bcase (((((BS.deal s) : Nat) : Int) : Int) == (IntKind.wrap IntKind.i64 ((((BS.came s) : Nat) : Int) + 1)))
 (((TV.v (AV.ptr 0 0)) = (TV.v (AV.ptr 0 0))) ∧
 (((TV.v (AV.ptr 0 0)) = (TV.v (AV.ptr 0 0))) ∧
 (((TV.v (AV.ptr 0 1)) = (TV.v (AV.ptr 0 1))) ∧
 (((TV.v (AV.int IntKind.i64 (IntKind.wrap IntKind.i64 ((((BS.came s) : Nat) : Int) + 1)))) = (TV.v (AV.int IntKind.i64 (IntKind.wrap IntKind.i64 ((((BS.came s) : Nat) : Int) + 1))))) ∧
 (((TV.v (AV.int IntKind.i64 (IntKind.wrap IntKind.i64 ((IntKind.wrap IntKind.i64 ((((BS.came s) : Nat) : Int) + 1)) - 1)))) = (TV.v (AV.int IntKind.i64 (IntKind.wrap IntKind.i64 ((IntKind.wrap IntKind.i64 ((((BS.came s) : Nat) : Int) + 1)) - 1))))) ∧
 (Q (AV.tuple [(AV.int IntKind.i64 (IntKind.wrap IntKind.i64 ((IntKind.wrap IntKind.i64 ((((BS.came s) : Nat) : Int) + 1)) - 1))), AV.nilslice, (AV.int IntKind.i64 0)]) (State.set (State.set (State.set (State.new (State.set (State.untok (State.untok (aloneR s pre fr))) 1 AObj.dead) (AObj.cells ((List.take (((fr) + (List.length (BS.pend s))) * 4) ((pre) ++ (flat (tcellL (BS.pend s))))) ++ [(AV.int IntKind.i64 0), (AV.int IntKind.i64 0), (AV.str ⟨⟨[]⟩⟩), AV.nilslice]) 37 4 true)) 0 (AObj.cells [(AV.int IntKind.i64 (BS.room s)), (AV.int IntKind.i64 (((BS.came s) : Nat) : Int)), (AV.int IntKind.i64 (((BS.deal s) : Nat) : Int)), (AV.int IntKind.i64 (((BS.asked s) : Nat) : Int)), (AV.rslice 2 0 (((fr) + (List.length (BS.pend s))) + 1)), (AV.int IntKind.i64 (((fr) : Nat) : Int))] 129 6 false)) 2 (AObj.cells (asplice ((List.take (((fr) + (List.length (BS.pend s))) * 4) ((pre) ++ (flat (tcellL (BS.pend s))))) ++ [(AV.int IntKind.i64 0), (AV.int IntKind.i64 0), (AV.str ⟨⟨[]⟩⟩), AV.nilslice]) ((0 + (Int.toNat ((((fr) + (List.length (BS.pend s))) : Nat) : Int))) * 4) [(AV.int IntKind.i64 (T.k t1)), (AV.int IntKind.i64 (T.n t1)), (AV.str (T.s t1)), (AV.slice 4 (tcellL (T.l t1)) Cap.any)]) 37 4 true)) 0 (AObj.cells [(AV.int IntKind.i64 (BS.room s)), (AV.int IntKind.i64 (IntKind.wrap IntKind.i64 ((((BS.came s) : Nat) : Int) + 1))), (AV.int IntKind.i64 (((BS.deal s) : Nat) : Int)), (AV.int IntKind.i64 (((BS.asked s) : Nat) : Int)), (AV.rslice 2 0 (((fr) + (List.length (BS.pend s))) + 1)), (AV.int IntKind.i64 (((fr) : Nat) : Int))] 129 6 false))))))))
 (bcase (((((BS.deal s) : Nat) : Int) : Int) == (((BS.asked s) : Nat) : Int))
 (((TV.v (AV.ptr 0 0)) = (TV.v (AV.ptr 0 0))) ∧
 (((TV.v (AV.ptr 0 0)) = (TV.v (AV.ptr 0 0))) ∧
 (((TV.v (AV.ptr 0 1)) = (TV.v (AV.ptr 0 1))) ∧
 (((TV.v (AV.int IntKind.i64 (IntKind.wrap IntKind.i64 ((((BS.came s) : Nat) : Int) + 1)))) = (TV.v (AV.int IntKind.i64 (IntKind.wrap IntKind.i64 ((((BS.came s) : Nat) : Int) + 1))))) ∧
 (((TV.v (AV.int IntKind.i64 (IntKind.wrap IntKind.i64 ((IntKind.wrap IntKind.i64 ((((BS.came s) : Nat) : Int) + 1)) - 1)))) = (TV.v (AV.int IntKind.i64 (IntKind.wrap IntKind.i64 ((IntKind.wrap IntKind.i64 ((((BS.came s) : Nat) : Int) + 1)) - 1))))) ∧
 (Q (AV.tuple [(AV.int IntKind.i64 (IntKind.wrap IntKind.i64 ((IntKind.wrap IntKind.i64 ((((BS.came s) : Nat) : Int) + 1)) - 1))), AV.nilslice, (AV.int IntKind.i64 0)]) (State.set (State.set (State.set (State.new (State.set (State.untok (State.untok (aloneR s pre fr))) 1 AObj.dead) (AObj.cells ((List.take (((fr) + (List.length (BS.pend s))) * 4) ((pre) ++ (flat (tcellL (BS.pend s))))) ++ [(AV.int IntKind.i64 0), (AV.int IntKind.i64 0), (AV.str ⟨⟨[]⟩⟩), AV.nilslice]) 37 4 true)) 0 (AObj.cells [(AV.int IntKind.i64 (BS.room s)), (AV.int IntKind.i64 (((BS.came s) : Nat) : Int)), (AV.int IntKind.i64 (((BS.deal s) : Nat) : Int)), (AV.int IntKind.i64 (((BS.asked s) : Nat) : Int)), (AV.rslice 2 0 (((fr) + (List.length (BS.pend s))) + 1)), (AV.int IntKind.i64 (((fr) : Nat) : Int))] 129 6 false)) 2 (AObj.cells (asplice ((List.take (((fr) + (List.length (BS.pend s))) * 4) ((pre) ++ (flat (tcellL (BS.pend s))))) ++ [(AV.int IntKind.i64 0), (AV.int IntKind.i64 0), (AV.str ⟨⟨[]⟩⟩), AV.nilslice]) ((0 + (Int.toNat ((((fr) + (List.length (BS.pend s))) : Nat) : Int))) * 4) [(AV.int IntKind.i64 (T.k t1)), (AV.int IntKind.i64 (T.n t1)), (AV.str (T.s t1)), (AV.slice 4 (tcellL (T.l t1)) Cap.any)]) 37 4 true)) 0 (AObj.cells [(AV.int IntKind.i64 (BS.room s)), (AV.int IntKind.i64 (IntKind.wrap IntKind.i64 ((((BS.came s) : Nat) : Int) + 1))), (AV.int IntKind.i64 (((BS.deal s) : Nat) : Int)), (AV.int IntKind.i64 (((BS.asked s) : Nat) : Int)), (AV.rslice 2 0 (((fr) + (List.length (BS.pend s))) + 1)), (AV.int IntKind.i64 (((fr) : Nat) : Int))] 129 6 false))))))))
 ((((0 : Int) ≤ (((fr) : Nat) : Int)) ∧
 (((((fr) : Nat) : Int) : Int) < (((((fr) + (List.length (BS.pend s))) + 1) : Nat) : Int))) ∧
 ((((((0 + (Int.toNat (((fr) : Nat) : Int))) * 4) + 4) : Nat) ≤ (List.length (asplice ((List.take (((fr) + (List.length (BS.pend s))) * 4) ((pre) ++ (flat (tcellL (BS.pend s))))) ++ [(AV.int IntKind.i64 0), (AV.int IntKind.i64 0), (AV.str ⟨⟨[]⟩⟩), AV.nilslice]) ((0 + (Int.toNat ((((fr) + (List.length (BS.pend s))) : Nat) : Int))) * 4) [(AV.int IntKind.i64 (T.k t1)), (AV.int IntKind.i64 (T.n t1)), (AV.str (T.s t1)), (AV.slice 4 (tcellL (T.l t1)) Cap.any)]))) ∧
 (∃ x2 : T, (((AV.agg (List.take 4 (List.drop ((0 + (Int.toNat (((fr) : Nat) : Int))) * 4) (asplice ((List.take (((fr) + (List.length (BS.pend s))) * 4) ((pre) ++ (flat (tcellL (BS.pend s))))) ++ [(AV.int IntKind.i64 0), (AV.int IntKind.i64 0), (AV.str ⟨⟨[]⟩⟩), AV.nilslice]) ((0 + (Int.toNat ((((fr) + (List.length (BS.pend s))) : Nat) : Int))) * 4) [(AV.int IntKind.i64 (T.k t1)), (AV.int IntKind.i64 (T.n t1)), (AV.str (T.s t1)), (AV.slice 4 (tcellL (T.l t1)) Cap.any)])))) = (AV.agg [(AV.int IntKind.i64 (T.k x2)), (AV.int IntKind.i64 (T.n x2)), (AV.str (T.s x2)), (AV.slice 4 (tcellL (T.l x2)) Cap.any)])) ∧
 (((TV.v (AV.ptr 0 4)) = (TV.v (AV.ptr 0 4))) ∧
 (((TV.v (AV.ptr 0 4)) = (TV.v (AV.ptr 0 4))) ∧
 (((TV.v (AV.ptr 0 4)) = (TV.v (AV.ptr 0 4))) ∧
 (((TV.v (AV.rslice 2 0 (((fr) + (List.length (BS.pend s))) + 1))) = (TV.v (AV.rslice 2 0 (((fr) + (List.length (BS.pend s))) + 1)))) ∧
 (((TV.v (AV.ptr 0 4)) = (TV.v (AV.ptr 0 4))) ∧
 (((TV.v (AV.ptr 0 4)) = (TV.v (AV.ptr 0 4))) ∧
 (((TV.v (AV.ptr 0 5)) = (TV.v (AV.ptr 0 5))) ∧
 (((TV.v (AV.int IntKind.i64 (((fr) : Nat) : Int))) = (TV.v (AV.int IntKind.i64 (((fr) : Nat) : Int)))) ∧
 (((((0 : Int) ≤ (((fr) : Nat) : Int)) ∧
 (((((fr) : Nat) : Int) : Int) < (((((fr) + (List.length (BS.pend s))) + 1) : Nat) : Int))) ∧
 ((TV.v (AV.ptr 2 ((0 + (Int.toNat (((fr) : Nat) : Int))) * 4))) = (TV.v (AV.ptr 2 ((0 + (Int.toNat (((fr) : Nat) : Int))) * 4))))) ∧
 (((((((0 + (Int.toNat (((fr) : Nat) : Int))) * 4) + 4) : Nat) ≤ (List.length (asplice ((List.take (((fr) + (List.length (BS.pend s))) * 4) ((pre) ++ (flat (tcellL (BS.pend s))))) ++ [(AV.int IntKind.i64 0), (AV.int IntKind.i64 0), (AV.str ⟨⟨[]⟩⟩), AV.nilslice]) ((0 + (Int.toNat ((((fr) + (List.length (BS.pend s))) : Nat) : Int))) * 4) [(AV.int IntKind.i64 (T.k t1)), (AV.int IntKind.i64 (T.n t1)), (AV.str (T.s t1)), (AV.slice 4 (tcellL (T.l t1)) Cap.any)]))) ∧
 (∃ x3 : T, (((AV.agg (List.take 4 (List.drop ((0 + (Int.toNat (((fr) : Nat) : Int))) * 4) (asplice ((List.take (((fr) + (List.length (BS.pend s))) * 4) ((pre) ++ (flat (tcellL (BS.pend s))))) ++ [(AV.int IntKind.i64 0), (AV.int IntKind.i64 0), (AV.str ⟨⟨[]⟩⟩), AV.nilslice]) ((0 + (Int.toNat ((((fr) + (List.length (BS.pend s))) : Nat) : Int))) * 4) [(AV.int IntKind.i64 (T.k t1)), (AV.int IntKind.i64 (T.n t1)), (AV.str (T.s t1)), (AV.slice 4 (tcellL (T.l t1)) Cap.any)])))) = (AV.agg [(AV.int IntKind.i64 (T.k x3)), (AV.int IntKind.i64 (T.n x3)), (AV.str (T.s x3)), (AV.slice 4 (tcellL (T.l x3)) Cap.any)])) ∧
 ((TV.v (AV.agg [(AV.int IntKind.i64 (T.k x3)), (AV.int IntKind.i64 (T.n x3)), (AV.str (T.s x3)), (AV.slice 4 (tcellL (T.l x3)) Cap.any)])) = (TV.v (AV.agg [(AV.int IntKind.i64 (T.k x2)), (AV.int IntKind.i64 (T.n x2)), (AV.str (T.s x2)), (AV.slice 4 (tcellL (T.l x2)) Cap.any)])))))) ∧
 ((((0 : Int) ≤ (((fr) : Nat) : Int)) ∧
 (((((fr) : Nat) : Int) : Int) < (((((fr) + (List.length (BS.pend s))) + 1) : Nat) : Int))) ∧
 ((((((0 + (Int.toNat (((fr) : Nat) : Int))) * 4) + 4) : Nat) ≤ (List.length (asplice ((List.take (((fr) + (List.length (BS.pend s))) * 4) ((pre) ++ (flat (tcellL (BS.pend s))))) ++ [(AV.int IntKind.i64 0), (AV.int IntKind.i64 0), (AV.str ⟨⟨[]⟩⟩), AV.nilslice]) ((0 + (Int.toNat ((((fr) + (List.length (BS.pend s))) : Nat) : Int))) * 4) [(AV.int IntKind.i64 (T.k t1)), (AV.int IntKind.i64 (T.n t1)), (AV.str (T.s t1)), (AV.slice 4 (tcellL (T.l t1)) Cap.any)]))) ∧
 (bcase (decide (((IntKind.wrap IntKind.i64 ((((fr) : Nat) : Int) + 1)) : Int) > 32))
 (bcase (decide (((IntKind.wrap IntKind.i64 (2 * (IntKind.wrap IntKind.i64 ((((fr) : Nat) : Int) + 1)))) : Int) > (((((fr) + (List.length (BS.pend s))) + 1) : Nat) : Int)))
 ((((0 : Int) ≤ (((((fr) + (List.length (BS.pend s))) + 1) : Nat) : Int)) ∧
 (((((((fr) + (List.length (BS.pend s))) + 1) : Nat) : Int) : Int) ≤ (((((fr) + (List.length (BS.pend s))) + 1) : Nat) : Int))) ∧
 ((((0 : Int) ≤ (((((fr) + (List.length (BS.pend s))) + 1) : Nat) : Int)) ∧
 (((((((fr) + (List.length (BS.pend s))) + 1) : Nat) : Int) : Int) ≤ (((Int.toNat (((((fr) + (List.length (BS.pend s))) + 1) : Nat) : Int)) : Nat) : Int))) ∧
 ((((0 : Int) ≤ (IntKind.wrap IntKind.i64 ((((fr) : Nat) : Int) + 1))) ∧
 (((IntKind.wrap IntKind.i64 ((((fr) : Nat) : Int) + 1)) : Int) ≤ (((Int.toNat (((((fr) + (List.length (BS.pend s))) + 1) : Nat) : Int)) : Nat) : Int))) ∧
 ((((((0 + (Int.toNat (IntKind.wrap IntKind.i64 ((((fr) : Nat) : Int) + 1)))) + ((Int.toNat (((((fr) + (List.length (BS.pend s))) + 1) : Nat) : Int)) - (Int.toNat (IntKind.wrap IntKind.i64 ((((fr) : Nat) : Int) + 1))))) * 4) : Nat) ≤ (List.length (asplice (asplice ((List.take (((fr) + (List.length (BS.pend s))) * 4) ((pre) ++ (flat (tcellL (BS.pend s))))) ++ [(AV.int IntKind.i64 0), (AV.int IntKind.i64 0), (AV.str ⟨⟨[]⟩⟩), AV.nilslice]) ((0 + (Int.toNat ((((fr) + (List.length (BS.pend s))) : Nat) : Int))) * 4) [(AV.int IntKind.i64 (T.k t1)), (AV.int IntKind.i64 (T.n t1)), (AV.str (T.s t1)), (AV.slice 4 (tcellL (T.l t1)) Cap.any)]) ((0 + (Int.toNat (((fr) : Nat) : Int))) * 4) [(AV.int IntKind.i64 0), (AV.int IntKind.i64 0), (AV.str ⟨⟨[]⟩⟩), AV.nilslice]))) ∧
 (bcase (List.isEmpty (chunk (Option.some 4) (List.take (((Int.toNat (((((fr) + (List.length (BS.pend s))) + 1) : Nat) : Int)) - (Int.toNat (IntKind.wrap IntKind.i64 ((((fr) : Nat) : Int) + 1)))) * 4) (List.drop ((0 + (Int.toNat (IntKind.wrap IntKind.i64 ((((fr) : Nat) : Int) + 1)))) * 4) (asplice (asplice ((List.take (((fr) + (List.length (BS.pend s))) * 4) ((pre) ++ (flat (tcellL (BS.pend s))))) ++ [(AV.int IntKind.i64 0), (AV.int IntKind.i64 0), (AV.str ⟨⟨[]⟩⟩), AV.nilslice]) ((0 + (Int.toNat ((((fr) + (List.length (BS.pend s))) : Nat) : Int))) * 4) [(AV.int IntKind.i64 (T.k t1)), (AV.int IntKind.i64 (T.n t1)), (AV.str (T.s t1)), (AV.slice 4 (tcellL (T.l t1)) Cap.any)]) ((0 + (Int.toNat (((fr) : Nat) : Int))) * 4) [(AV.int IntKind.i64 0), (AV.int IntKind.i64 0), (AV.str ⟨⟨[]⟩⟩), AV.nilslice]))) ((Int.toNat (((((fr) + (List.length (BS.pend s))) + 1) : Nat) : Int)) - (Int.toNat (IntKind.wrap IntKind.i64 ((((fr) : Nat) : Int) + 1))))))
 (((TV.v (AV.ptr 0 4)) = (TV.v (AV.ptr 0 4))) ∧
 (((TV.v (AV.ptr 0 4)) = (TV.v (AV.ptr 0 4))) ∧
 (((TV.v (AV.ptr 0 4)) = (TV.v (AV.ptr 0 4))) ∧
 (((TV.v (AV.ptr 0 0)) = (TV.v (AV.ptr 0 0))) ∧
 (((TV.v (AV.ptr 0 0)) = (TV.v (AV.ptr 0 0))) ∧
 (((TV.v (AV.ptr 0 2)) = (TV.v (AV.ptr 0 2))) ∧
 (((TV.v (AV.int IntKind.i64 (IntKind.wrap IntKind.i64 ((((BS.deal s) : Nat) : Int) + 1)))) = (TV.v (AV.int IntKind.i64 (IntKind.wrap IntKind.i64 ((((BS.deal s) : Nat) : Int) + 1))))) ∧
 (((TV.v (AV.int IntKind.i64 (IntKind.wrap IntKind.i64 ((IntKind.wrap IntKind.i64 ((((BS.deal s) : Nat) : Int) + 1)) - 1)))) = (TV.v (AV.int IntKind.i64 (IntKind.wrap IntKind.i64 ((IntKind.wrap IntKind.i64 ((((BS.deal s) : Nat) : Int) + 1)) - 1))))) ∧
 (((TV.v (AV.ptr 0 0)) = (TV.v (AV.ptr 0 0))) ∧
 (((TV.v (AV.ptr 0 0)) = (TV.v (AV.ptr 0 0))) ∧
 (((TV.v (AV.ptr 0 2)) = (TV.v (AV.ptr 0 2))) ∧
 (((TV.v (AV.int IntKind.i64 (IntKind.wrap IntKind.i64 ((((BS.deal s) : Nat) : Int) + 1)))) = (TV.v (AV.int IntKind.i64 (IntKind.wrap IntKind.i64 ((((BS.deal s) : Nat) : Int) + 1))))) ∧
 (((TV.v (AV.int IntKind.i64 (IntKind.wrap IntKind.i64 ((IntKind.wrap IntKind.i64 ((((BS.deal s) : Nat) : Int) + 1)) - 1)))) = (TV.v (AV.int IntKind.i64 (IntKind.wrap IntKind.i64 ((IntKind.wrap IntKind.i64 ((((BS.deal s) : Nat) : Int) + 1)) - 1))))) ∧
 (((TV.v (AV.ptr 0 0)) = (TV.v (AV.ptr 0 0))) ∧
 (((TV.v (AV.ptr 0 0)) = (TV.v (AV.ptr 0 0))) ∧
 (((TV.v (AV.ptr 0 1)) = (TV.v (AV.ptr 0 1))) ∧
 (((TV.v (AV.int IntKind.i64 (IntKind.wrap IntKind.i64 ((((BS.came s) : Nat) : Int) + 1)))) = (TV.v (AV.int IntKind.i64 (IntKind.wrap IntKind.i64 ((((BS.came s) : Nat) : Int) + 1))))) ∧
 (((TV.v (AV.int IntKind.i64 (IntKind.wrap IntKind.i64 ((IntKind.wrap IntKind.i64 ((((BS.came s) : Nat) : Int) + 1)) - 1)))) = (TV.v (AV.int IntKind.i64 (IntKind.wrap IntKind.i64 ((IntKind.wrap IntKind.i64 ((((BS.came s) : Nat) : Int) + 1)) - 1))))) ∧
 (Q (AV.tuple [(AV.int IntKind.i64 (IntKind.wrap IntKind.i64 ((IntKind.wrap IntKind.i64 ((((BS.came s) : Nat) : Int) + 1)) - 1))), (AV.slice 6 [(AV.agg [(AV.int IntKind.i64 (IntKind.wrap IntKind.i64 ((IntKind.wrap IntKind.i64 ((((BS.deal s) : Nat) : Int) + 1)) - 1))), (AV.int IntKind.i64 (IntKind.wrap IntKind.i64 ((IntKind.wrap IntKind.i64 ((((BS.deal s) : Nat) : Int) + 1)) - 1))), (AV.int IntKind.i64 (T.k x2)), (AV.int IntKind.i64 (T.n x2)), (AV.str (T.s x2)), (AV.slice 4 (tcellL (T.l x2)) Cap.any)])] Cap.full), (AV.int IntKind.i64 0)]) (State.set (State.set (State.set (State.set (State.set (State.set (State.set (State.set (State.new (State.set (State.untok (State.untok (aloneR s pre fr))) 1 AObj.dead) (AObj.cells ((List.take (((fr) + (List.length (BS.pend s))) * 4) ((pre) ++ (flat (tcellL (BS.pend s))))) ++ [(AV.int IntKind.i64 0), (AV.int IntKind.i64 0), (AV.str ⟨⟨[]⟩⟩), AV.nilslice]) 37 4 true)) 0 (AObj.cells [(AV.int IntKind.i64 (BS.room s)), (AV.int IntKind.i64 (((BS.came s) : Nat) : Int)), (AV.int IntKind.i64 (((BS.deal s) : Nat) : Int)), (AV.int IntKind.i64 (((BS.asked s) : Nat) : Int)), (AV.rslice 2 0 (((fr) + (List.length (BS.pend s))) + 1)), (AV.int IntKind.i64 (((fr) : Nat) : Int))] 129 6 false)) 2 (AObj.cells (asplice ((List.take (((fr) + (List.length (BS.pend s))) * 4) ((pre) ++ (flat (tcellL (BS.pend s))))) ++ [(AV.int IntKind.i64 0), (AV.int IntKind.i64 0), (AV.str ⟨⟨[]⟩⟩), AV.nilslice]) ((0 + (Int.toNat ((((fr) + (List.length (BS.pend s))) : Nat) : Int))) * 4) [(AV.int IntKind.i64 (T.k t1)), (AV.int IntKind.i64 (T.n t1)), (AV.str (T.s t1)), (AV.slice 4 (tcellL (T.l t1)) Cap.any)]) 37 4 true)) 0 (AObj.cells [(AV.int IntKind.i64 (BS.room s)), (AV.int IntKind.i64 (IntKind.wrap IntKind.i64 ((((BS.came s) : Nat) : Int) + 1))), (AV.int IntKind.i64 (((BS.deal s) : Nat) : Int)), (AV.int IntKind.i64 (((BS.asked s) : Nat) : Int)), (AV.rslice 2 0 (((fr) + (List.length (BS.pend s))) + 1)), (AV.int IntKind.i64 (((fr) : Nat) : Int))] 129 6 false)) 0 (AObj.cells [(AV.int IntKind.i64 (BS.room s)), (AV.int IntKind.i64 (IntKind.wrap IntKind.i64 ((((BS.came s) : Nat) : Int) + 1))), (AV.int IntKind.i64 (IntKind.wrap IntKind.i64 ((((BS.deal s) : Nat) : Int) + 1))), (AV.int IntKind.i64 (((BS.asked s) : Nat) : Int)), (AV.rslice 2 0 (((fr) + (List.length (BS.pend s))) + 1)), (AV.int IntKind.i64 (((fr) : Nat) : Int))] 129 6 false)) 2 (AObj.cells (asplice (asplice ((List.take (((fr) + (List.length (BS.pend s))) * 4) ((pre) ++ (flat (tcellL (BS.pend s))))) ++ [(AV.int IntKind.i64 0), (AV.int IntKind.i64 0), (AV.str ⟨⟨[]⟩⟩), AV.nilslice]) ((0 + (Int.toNat ((((fr) + (List.length (BS.pend s))) : Nat) : Int))) * 4) [(AV.int IntKind.i64 (T.k t1)), (AV.int IntKind.i64 (T.n t1)), (AV.str (T.s t1)), (AV.slice 4 (tcellL (T.l t1)) Cap.any)]) ((0 + (Int.toNat (((fr) : Nat) : Int))) * 4) [(AV.int IntKind.i64 0), (AV.int IntKind.i64 0), (AV.str ⟨⟨[]⟩⟩), AV.nilslice]) 37 4 true)) 0 (AObj.cells [(AV.int IntKind.i64 (BS.room s)), (AV.int IntKind.i64 (IntKind.wrap IntKind.i64 ((((BS.came s) : Nat) : Int) + 1))), (AV.int IntKind.i64 (IntKind.wrap IntKind.i64 ((((BS.deal s) : Nat) : Int) + 1))), (AV.int IntKind.i64 (((BS.asked s) : Nat) : Int)), (AV.rslice 2 0 (((fr) + (List.length (BS.pend s))) + 1)), (AV.int IntKind.i64 (IntKind.wrap IntKind.i64 ((((fr) : Nat) : Int) + 1)))] 129 6 false)) 0 (AObj.cells [(AV.int IntKind.i64 (BS.room s)), (AV.int IntKind.i64 (IntKind.wrap IntKind.i64 ((((BS.came s) : Nat) : Int) + 1))), (AV.int IntKind.i64 (IntKind.wrap IntKind.i64 ((((BS.deal s) : Nat) : Int) + 1))), (AV.int IntKind.i64 (((BS.asked s) : Nat) : Int)), AV.nilslice, (AV.int IntKind.i64 (IntKind.wrap IntKind.i64 ((((fr) : Nat) : Int) + 1)))] 129 6 false)) 0 (AObj.cells [(AV.int IntKind.i64 (BS.room s)), (AV.int IntKind.i64 (IntKind.wrap IntKind.i64 ((((BS.came s) : Nat) : Int) + 1))), (AV.int IntKind.i64 (IntKind.wrap IntKind.i64 ((((BS.deal s) : Nat) : Int) + 1))), (AV.int IntKind.i64 (((BS.asked s) : Nat) : Int)), AV.nilslice, (AV.int IntKind.i64 0)] 129 6 false)))))))))))))))))))))
 ((((((List.length (chunk (Option.some 4) (List.take (((Int.toNat (((((fr) + (List.length (BS.pend s))) + 1) : Nat) : Int)) - (Int.toNat (IntKind.wrap IntKind.i64 ((((fr) : Nat) : Int) + 1)))) * 4) (List.drop ((0 + (Int.toNat (IntKind.wrap IntKind.i64 ((((fr) : Nat) : Int) + 1)))) * 4) (asplice (asplice ((List.take (((fr) + (List.length (BS.pend s))) * 4) ((pre) ++ (flat (tcellL (BS.pend s))))) ++ [(AV.int IntKind.i64 0), (AV.int IntKind.i64 0), (AV.str ⟨⟨[]⟩⟩), AV.nilslice]) ((0 + (Int.toNat ((((fr) + (List.length (BS.pend s))) : Nat) : Int))) * 4) [(AV.int IntKind.i64 (T.k t1)), (AV.int IntKind.i64 (T.n t1)), (AV.str (T.s t1)), (AV.slice 4 (tcellL (T.l t1)) Cap.any)]) ((0 + (Int.toNat (((fr) : Nat) : Int))) * 4) [(AV.int IntKind.i64 0), (AV.int IntKind.i64 0), (AV.str ⟨⟨[]⟩⟩), AV.nilslice]))) ((Int.toNat (((((fr) + (List.length (BS.pend s))) + 1) : Nat) : Int)) - (Int.toNat (IntKind.wrap IntKind.i64 ((((fr) : Nat) : Int) + 1)))))) * 56) : Nat) ≤ 140737488355328) ∧
 (((List.length (chunk (Option.some 4) (List.take (((Int.toNat (((((fr) + (List.length (BS.pend s))) + 1) : Nat) : Int)) - (Int.toNat (IntKind.wrap IntKind.i64 ((((fr) : Nat) : Int) + 1)))) * 4) (List.drop ((0 + (Int.toNat (IntKind.wrap IntKind.i64 ((((fr) : Nat) : Int) + 1)))) * 4) (asplice (asplice ((List.take (((fr) + (List.length (BS.pend s))) * 4) ((pre) ++ (flat (tcellL (BS.pend s))))) ++ [(AV.int IntKind.i64 0), (AV.int IntKind.i64 0), (AV.str ⟨⟨[]⟩⟩), AV.nilslice]) ((0 + (Int.toNat ((((fr) + (List.length (BS.pend s))) : Nat) : Int))) * 4) [(AV.int IntKind.i64 (T.k t1)), (AV.int IntKind.i64 (T.n t1)), (AV.str (T.s t1)), (AV.slice 4 (tcellL (T.l t1)) Cap.any)]) ((0 + (Int.toNat (((fr) : Nat) : Int))) * 4) [(AV.int IntKind.i64 0), (AV.int IntKind.i64 0), (AV.str ⟨⟨[]⟩⟩), AV.nilslice]))) ((Int.toNat (((((fr) + (List.length (BS.pend s))) + 1) : Nat) : Int)) - (Int.toNat (IntKind.wrap IntKind.i64 ((((fr) : Nat) : Int) + 1)))))) : Nat) ≤ 4611686018427387904)) ∧
 (((TV.v (AV.ptr 0 4)) = (TV.v (AV.ptr 0 4))) ∧
 (((TV.v (AV.ptr 0 4)) = (TV.v (AV.ptr 0 4))) ∧
 (((TV.v (AV.ptr 0 4)) = (TV.v (AV.ptr 0 4))) ∧
 (((TV.v (AV.ptr 0 0)) = (TV.v (AV.ptr 0 0))) ∧
 (((TV.v (AV.ptr 0 0)) = (TV.v (AV.ptr 0 0))) ∧
 (((TV.v (AV.ptr 0 2)) = (TV.v (AV.ptr 0 2))) ∧
 (((TV.v (AV.int IntKind.i64 (IntKind.wrap IntKind.i64 ((((BS.deal s) : Nat) : Int) + 1)))) = (TV.v (AV.int IntKind.i64 (IntKind.wrap IntKind.i64 ((((BS.deal s) : Nat) : Int) + 1))))) ∧
 (((TV.v (AV.int IntKind.i64 (IntKind.wrap IntKind.i64 ((IntKind.wrap IntKind.i64 ((((BS.deal s) : Nat) : Int) + 1)) - 1)))) = (TV.v (AV.int IntKind.i64 (IntKind.wrap IntKind.i64 ((IntKind.wrap IntKind.i64 ((((BS.deal s) : Nat) : Int) + 1)) - 1))))) ∧
 (((TV.v (AV.ptr 0 0)) = (TV.v (AV.ptr 0 0))) ∧
 (((TV.v (AV.ptr 0 0)) = (TV.v (AV.ptr 0 0))) ∧
 (((TV.v (AV.ptr 0 2)) = (TV.v (AV.ptr 0 2))) ∧
 (((TV.v (AV.int IntKind.i64 (IntKind.wrap IntKind.i64 ((((BS.deal s) : Nat) : Int) + 1)))) = (TV.v (AV.int IntKind.i64 (IntKind.wrap IntKind.i64 ((((BS.deal s) : Nat) : Int) + 1))))) ∧
 (((TV.v (AV.int IntKind.i64 (IntKind.wrap IntKind.i64 ((IntKind.wrap IntKind.i64 ((((BS.deal s) : Nat) : Int) + 1)) - 1)))) = (TV.v (AV.int IntKind.i64 (IntKind.wrap IntKind.i64 ((IntKind.wrap IntKind.i64 ((((BS.deal s) : Nat) : Int) + 1)) - 1))))) ∧
 (((TV.v (AV.ptr 0 0)) = (TV.v (AV.ptr 0 0))) ∧
 (((TV.v (AV.ptr 0 0)) = (TV.v (AV.ptr 0 0))) ∧
 (((TV.v (AV.ptr 0 1)) = (TV.v (AV.ptr 0 1))) ∧
 (((TV.v (AV.int IntKind.i64 (IntKind.wrap IntKind.i64 ((((BS.came s) : Nat) : Int) + 1)))) = (TV.v (AV.int IntKind.i64 (IntKind.wrap IntKind.i64 ((((BS.came s) : Nat) : Int) + 1))))) ∧
 (((TV.v (AV.int IntKind.i64 (IntKind.wrap IntKind.i64 ((IntKind.wrap IntKind.i64 ((((BS.came s) : Nat) : Int) + 1)) - 1)))) = (TV.v (AV.int IntKind.i64 (IntKind.wrap IntKind.i64 ((IntKind.wrap IntKind.i64 ((((BS.came s) : Nat) : Int) + 1)) - 1))))) ∧
 (Q (AV.tuple [(AV.int IntKind.i64 (IntKind.wrap IntKind.i64 ((IntKind.wrap IntKind.i64 ((((BS.came s) : Nat) : Int) + 1)) - 1))), (AV.slice 6 [(AV.agg [(AV.int IntKind.i64 (IntKind.wrap IntKind.i64 ((IntKind.wrap IntKind.i64 ((((BS.deal s) : Nat) : Int) + 1)) - 1))), (AV.int IntKind.i64 (IntKind.wrap IntKind.i64 ((IntKind.wrap IntKind.i64 ((((BS.deal s) : Nat) : Int) + 1)) - 1))), (AV.int IntKind.i64 (T.k x2)), (AV.int IntKind.i64 (T.n x2)), (AV.str (T.s x2)), (AV.slice 4 (tcellL (T.l x2)) Cap.any)])] Cap.full), (AV.int IntKind.i64 0)]) (State.set (State.set (State.new (State.set (State.set (State.set (State.set (State.set (State.set (State.new (State.set (State.untok (State.untok (aloneR s pre fr))) 1 AObj.dead) (AObj.cells ((List.take (((fr) + (List.length (BS.pend s))) * 4) ((pre) ++ (flat (tcellL (BS.pend s))))) ++ [(AV.int IntKind.i64 0), (AV.int IntKind.i64 0), (AV.str ⟨⟨[]⟩⟩), AV.nilslice]) 37 4 true)) 0 (AObj.cells [(AV.int IntKind.i64 (BS.room s)), (AV.int IntKind.i64 (((BS.came s) : Nat) : Int)), (AV.int IntKind.i64 (((BS.deal s) : Nat) : Int)), (AV.int IntKind.i64 (((BS.asked s) : Nat) : Int)), (AV.rslice 2 0 (((fr) + (List.length (BS.pend s))) + 1)), (AV.int IntKind.i64 (((fr) : Nat) : Int))] 129 6 false)) 2 (AObj.cells (asplice ((List.take (((fr) + (List.length (BS.pend s))) * 4) ((pre) ++ (flat (tcellL (BS.pend s))))) ++ [(AV.int IntKind.i64 0), (AV.int IntKind.i64 0), (AV.str ⟨⟨[]⟩⟩), AV.nilslice]) ((0 + (Int.toNat ((((fr) + (List.length (BS.pend s))) : Nat) : Int))) * 4) [(AV.int IntKind.i64 (T.k t1)), (AV.int IntKind.i64 (T.n t1)), (AV.str (T.s t1)), (AV.slice 4 (tcellL (T.l t1)) Cap.any)]) 37 4 true)) 0 (AObj.cells [(AV.int IntKind.i64 (BS.room s)), (AV.int IntKind.i64 (IntKind.wrap IntKind.i64 ((((BS.came s) : Nat) : Int) + 1))), (AV.int IntKind.i64 (((BS.deal s) : Nat) : Int)), (AV.int IntKind.i64 (((BS.asked s) : Nat) : Int)), (AV.rslice 2 0 (((fr) + (List.length (BS.pend s))) + 1)), (AV.int IntKind.i64 (((fr) : Nat) : Int))] 129 6 false)) 0 (AObj.cells [(AV.int IntKind.i64 (BS.room s)), (AV.int IntKind.i64 (IntKind.wrap IntKind.i64 ((((BS.came s) : Nat) : Int) + 1))), (AV.int IntKind.i64 (IntKind.wrap IntKind.i64 ((((BS.deal s) : Nat) : Int) + 1))), (AV.int IntKind.i64 (((BS.asked s) : Nat) : Int)), (AV.rslice 2 0 (((fr) + (List.length (BS.pend s))) + 1)), (AV.int IntKind.i64 (((fr) : Nat) : Int))] 129 6 false)) 2 (AObj.cells (asplice (asplice ((List.take (((fr) + (List.length (BS.pend s))) * 4) ((pre) ++ (flat (tcellL (BS.pend s))))) ++ [(AV.int IntKind.i64 0), (AV.int IntKind.i64 0), (AV.str ⟨⟨[]⟩⟩), AV.nilslice]) ((0 + (Int.toNat ((((fr) + (List.length (BS.pend s))) : Nat) : Int))) * 4) [(AV.int IntKind.i64 (T.k t1)), (AV.int IntKind.i64 (T.n t1)), (AV.str (T.s t1)), (AV.slice 4 (tcellL (T.l t1)) Cap.any)]) ((0 + (Int.toNat (((fr) : Nat) : Int))) * 4) [(AV.int IntKind.i64 0), (AV.int IntKind.i64 0), (AV.str ⟨⟨[]⟩⟩), AV.nilslice]) 37 4 true)) 0 (AObj.cells [(AV.int IntKind.i64 (BS.room s)), (AV.int IntKind.i64 (IntKind.wrap IntKind.i64 ((((BS.came s) : Nat) : Int) + 1))), (AV.int IntKind.i64 (IntKind.wrap IntKind.i64 ((((BS.deal s) : Nat) : Int) + 1))), (AV.int IntKind.i64 (((BS.asked s) : Nat) : Int)), (AV.rslice 2 0 (((fr) + (List.length (BS.pend s))) + 1)), (AV.int IntKind.i64 (IntKind.wrap IntKind.i64 ((((fr) : Nat) : Int) + 1)))] 129 6 false)) (AObj.cells (flat (chunk (Option.some 4) (List.take (((Int.toNat (((((fr) + (List.length (BS.pend s))) + 1) : Nat) : Int)) - (Int.toNat (IntKind.wrap IntKind.i64 ((((fr) : Nat) : Int) + 1)))) * 4) (List.drop ((0 + (Int.toNat (IntKind.wrap IntKind.i64 ((((fr) : Nat) : Int) + 1)))) * 4) (asplice (asplice ((List.take (((fr) + (List.length (BS.pend s))) * 4) ((pre) ++ (flat (tcellL (BS.pend s))))) ++ [(AV.int IntKind.i64 0), (AV.int IntKind.i64 0), (AV.str ⟨⟨[]⟩⟩), AV.nilslice]) ((0 + (Int.toNat ((((fr) + (List.length (BS.pend s))) : Nat) : Int))) * 4) [(AV.int IntKind.i64 (T.k t1)), (AV.int IntKind.i64 (T.n t1)), (AV.str (T.s t1)), (AV.slice 4 (tcellL (T.l t1)) Cap.any)]) ((0 + (Int.toNat (((fr) : Nat) : Int))) * 4) [(AV.int IntKind.i64 0), (AV.int IntKind.i64 0), (AV.str ⟨⟨[]⟩⟩), AV.nilslice]))) ((Int.toNat (((((fr) + (List.length (BS.pend s))) + 1) : Nat) : Int)) - (Int.toNat (IntKind.wrap IntKind.i64 ((((fr) : Nat) : Int) + 1)))))) 37 4 true)) 0 (AObj.cells [(AV.int IntKind.i64 (BS.room s)), (AV.int IntKind.i64 (IntKind.wrap IntKind.i64 ((((BS.came s) : Nat) : Int) + 1))), (AV.int IntKind.i64 (IntKind.wrap IntKind.i64 ((((BS.deal s) : Nat) : Int) + 1))), (AV.int IntKind.i64 (((BS.asked s) : Nat) : Int)), (AV.rslice 3 0 (List.length (chunk (Option.some 4) (List.take (((Int.toNat (((((fr) + (List.length (BS.pend s))) + 1) : Nat) : Int)) - (Int.toNat (IntKind.wrap IntKind.i64 ((((fr) : Nat) : Int) + 1)))) * 4) (List.drop ((0 + (Int.toNat (IntKind.wrap IntKind.i64 ((((fr) : Nat) : Int) + 1)))) * 4) (asplice (asplice ((List.take (((fr) + (List.length (BS.pend s))) * 4) ((pre) ++ (flat (tcellL (BS.pend s))))) ++ [(AV.int IntKind.i64 0), (AV.int IntKind.i64 0), (AV.str ⟨⟨[]⟩⟩), AV.nilslice]) ((0 + (Int.toNat ((((fr) + (List.length (BS.pend s))) : Nat) : Int))) * 4) [(AV.int IntKind.i64 (T.k t1)), (AV.int IntKind.i64 (T.n t1)), (AV.str (T.s t1)), (AV.slice 4 (tcellL (T.l t1)) Cap.any)]) ((0 + (Int.toNat (((fr) : Nat) : Int))) * 4) [(AV.int IntKind.i64 0), (AV.int IntKind.i64 0), (AV.str ⟨⟨[]⟩⟩), AV.nilslice]))) ((Int.toNat (((((fr) + (List.length (BS.pend s))) + 1) : Nat) : Int)) - (Int.toNat (IntKind.wrap IntKind.i64 ((((fr) : Nat) : Int) + 1))))))), (AV.int IntKind.i64 (IntKind.wrap IntKind.i64 ((((fr) : Nat) : Int) + 1)))] 129 6 false)) 0 (AObj.cells [(AV.int IntKind.i64 (BS.room s)), (AV.int IntKind.i64 (IntKind.wrap IntKind.i64 ((((BS.came s) : Nat) : Int) + 1))), (AV.int IntKind.i64 (IntKind.wrap IntKind.i64 ((((BS.deal s) : Nat) : Int) + 1))), (AV.int IntKind.i64 (((BS.asked s) : Nat) : Int)), (AV.rslice 3 0 (List.length (chunk (Option.some 4) (List.take (((Int.toNat (((((fr) + (List.length (BS.pend s))) + 1) : Nat) : Int)) - (Int.toNat (IntKind.wrap IntKind.i64 ((((fr) : Nat) : Int) + 1)))) * 4) (List.drop ((0 + (Int.toNat (IntKind.wrap IntKind.i64 ((((fr) : Nat) : Int) + 1)))) * 4) (asplice (asplice ((List.take (((fr) + (List.length (BS.pend s))) * 4) ((pre) ++ (flat (tcellL (BS.pend s))))) ++ [(AV.int IntKind.i64 0), (AV.int IntKind.i64 0), (AV.str ⟨⟨[]⟩⟩), AV.nilslice]) ((0 + (Int.toNat ((((fr) + (List.length (BS.pend s))) : Nat) : Int))) * 4) [(AV.int IntKind.i64 (T.k t1)), (AV.int IntKind.i64 (T.n t1)), (AV.str (T.s t1)), (AV.slice 4 (tcellL (T.l t1)) Cap.any)]) ((0 + (Int.toNat (((fr) : Nat) : Int))) * 4) [(AV.int IntKind.i64 0), (AV.int IntKind.i64 0), (AV.str ⟨⟨[]⟩⟩), AV.nilslice]))) ((Int.toNat (((((fr) + (List.length (BS.pend s))) + 1) : Nat) : Int)) - (Int.toNat (IntKind.wrap IntKind.i64 ((((fr) : Nat) : Int) + 1))))))), (AV.int IntKind.i64 0)] 129 6 false)))))))))))))))))))))))))))
 (((TV.v (AV.ptr 0 0)) = (TV.v (AV.ptr 0 0))) ∧
 (((TV.v (AV.ptr 0 0)) = (TV.v (AV.ptr 0 0))) ∧
 (((TV.v (AV.ptr 0 2)) = (TV.v (AV.ptr 0 2))) ∧
 (((TV.v (AV.int IntKind.i64 (IntKind.wrap IntKind.i64 ((((BS.deal s) : Nat) : Int) + 1)))) = (TV.v (AV.int IntKind.i64 (IntKind.wrap IntKind.i64 ((((BS.deal s) : Nat) : Int) + 1))))) ∧
 (((TV.v (AV.int IntKind.i64 (IntKind.wrap IntKind.i64 ((IntKind.wrap IntKind.i64 ((((BS.deal s) : Nat) : Int) + 1)) - 1)))) = (TV.v (AV.int IntKind.i64 (IntKind.wrap IntKind.i64 ((IntKind.wrap IntKind.i64 ((((BS.deal s) : Nat) : Int) + 1)) - 1))))) ∧
 (((TV.v (AV.ptr 0 0)) = (TV.v (AV.ptr 0 0))) ∧
 (((TV.v (AV.ptr 0 0)) = (TV.v (AV.ptr 0 0))) ∧
 (((TV.v (AV.ptr 0 2)) = (TV.v (AV.ptr 0 2))) ∧
 (((TV.v (AV.int IntKind.i64 (IntKind.wrap IntKind.i64 ((((BS.deal s) : Nat) : Int) + 1)))) = (TV.v (AV.int IntKind.i64 (IntKind.wrap IntKind.i64 ((((BS.deal s) : Nat) : Int) + 1))))) ∧
 (((TV.v (AV.int IntKind.i64 (IntKind.wrap IntKind.i64 ((IntKind.wrap IntKind.i64 ((((BS.deal s) : Nat) : Int) + 1)) - 1)))) = (TV.v (AV.int IntKind.i64 (IntKind.wrap IntKind.i64 ((IntKind.wrap IntKind.i64 ((((BS.deal s) : Nat) : Int) + 1)) - 1))))) ∧
 (((TV.v (AV.ptr 0 0)) = (TV.v (AV.ptr 0 0))) ∧
 (((TV.v (AV.ptr 0 0)) = (TV.v (AV.ptr 0 0))) ∧
 (((TV.v (AV.ptr 0 1)) = (TV.v (AV.ptr 0 1))) ∧
 (((TV.v (AV.int IntKind.i64 (IntKind.wrap IntKind.i64 ((((BS.came s) : Nat) : Int) + 1)))) = (TV.v (AV.int IntKind.i64 (IntKind.wrap IntKind.i64 ((((BS.came s) : Nat) : Int) + 1))))) ∧
 (((TV.v (AV.int IntKind.i64 (IntKind.wrap IntKind.i64 ((IntKind.wrap IntKind.i64 ((((BS.came s) : Nat) : Int) + 1)) - 1)))) = (TV.v (AV.int IntKind.i64 (IntKind.wrap IntKind.i64 ((IntKind.wrap IntKind.i64 ((((BS.came s) : Nat) : Int) + 1)) - 1))))) ∧
 (Q (AV.tuple [(AV.int IntKind.i64 (IntKind.wrap IntKind.i64 ((IntKind.wrap IntKind.i64 ((((BS.came s) : Nat) : Int) + 1)) - 1))), (AV.slice 6 [(AV.agg [(AV.int IntKind.i64 (IntKind.wrap IntKind.i64 ((IntKind.wrap IntKind.i64 ((((BS.deal s) : Nat) : Int) + 1)) - 1))), (AV.int IntKind.i64 (IntKind.wrap IntKind.i64 ((IntKind.wrap IntKind.i64 ((((BS.deal s) : Nat) : Int) + 1)) - 1))), (AV.int IntKind.i64 (T.k x2)), (AV.int IntKind.i64 (T.n x2)), (AV.str (T.s x2)), (AV.slice 4 (tcellL (T.l x2)) Cap.any)])] Cap.full), (AV.int IntKind.i64 0)]) (State.set (State.set (State.set (State.set (State.set (State.set (State.new (State.set (State.untok (State.untok (aloneR s pre fr))) 1 AObj.dead) (AObj.cells ((List.take (((fr) + (List.length (BS.pend s))) * 4) ((pre) ++ (flat (tcellL (BS.pend s))))) ++ [(AV.int IntKind.i64 0), (AV.int IntKind.i64 0), (AV.str ⟨⟨[]⟩⟩), AV.nilslice]) 37 4 true)) 0 (AObj.cells [(AV.int IntKind.i64 (BS.room s)), (AV.int IntKind.i64 (((BS.came s) : Nat) : Int)), (AV.int IntKind.i64 (((BS.deal s) : Nat) : Int)), (AV.int IntKind.i64 (((BS.asked s) : Nat) : Int)), (AV.rslice 2 0 (((fr) + (List.length (BS.pend s))) + 1)), (AV.int IntKind.i64 (((fr) : Nat) : Int))] 129 6 false)) 2 (AObj.cells (asplice ((List.take (((fr) + (List.length (BS.pend s))) * 4) ((pre) ++ (flat (tcellL (BS.pend s))))) ++ [(AV.int IntKind.i64 0), (AV.int IntKind.i64 0), (AV.str ⟨⟨[]⟩⟩), AV.nilslice]) ((0 + (Int.toNat ((((fr) + (List.length (BS.pend s))) : Nat) : Int))) * 4) [(AV.int IntKind.i64 (T.k t1)), (AV.int IntKind.i64 (T.n t1)), (AV.str (T.s t1)), (AV.slice 4 (tcellL (T.l t1)) Cap.any)]) 37 4 true)) 0 (AObj.cells [(AV.int IntKind.i64 (BS.room s)), (AV.int IntKind.i64 (IntKind.wrap IntKind.i64 ((((BS.came s) : Nat) : Int) + 1))), (AV.int IntKind.i64 (((BS.deal s) : Nat) : Int)), (AV.int IntKind.i64 (((BS.asked s) : Nat) : Int)), (AV.rslice 2 0 (((fr) + (List.length (BS.pend s))) + 1)), (AV.int IntKind.i64 (((fr) : Nat) : Int))] 129 6 false)) 0 (AObj.cells [(AV.int IntKind.i64 (BS.room s)), (AV.int IntKind.i64 (IntKind.wrap IntKind.i64 ((((BS.came s) : Nat) : Int) + 1))), (AV.int IntKind.i64 (IntKind.wrap IntKind.i64 ((((BS.deal s) : Nat) : Int) + 1))), (AV.int IntKind.i64 (((BS.asked s) : Nat) : Int)), (AV.rslice 2 0 (((fr) + (List.length (BS.pend s))) + 1)), (AV.int IntKind.i64 (((fr) : Nat) : Int))] 129 6 false)) 2 (AObj.cells (asplice (asplice ((List.take (((fr) + (List.length (BS.pend s))) * 4) ((pre) ++ (flat (tcellL (BS.pend s))))) ++ [(AV.int IntKind.i64 0), (AV.int IntKind.i64 0), (AV.str ⟨⟨[]⟩⟩), AV.nilslice]) ((0 + (Int.toNat ((((fr) + (List.length (BS.pend s))) : Nat) : Int))) * 4) [(AV.int IntKind.i64 (T.k t1)), (AV.int IntKind.i64 (T.n t1)), (AV.str (T.s t1)), (AV.slice 4 (tcellL (T.l t1)) Cap.any)]) ((0 + (Int.toNat (((fr) : Nat) : Int))) * 4) [(AV.int IntKind.i64 0), (AV.int IntKind.i64 0), (AV.str ⟨⟨[]⟩⟩), AV.nilslice]) 37 4 true)) 0 (AObj.cells [(AV.int IntKind.i64 (BS.room s)), (AV.int IntKind.i64 (IntKind.wrap IntKind.i64 ((((BS.came s) : Nat) : Int) + 1))), (AV.int IntKind.i64 (IntKind.wrap IntKind.i64 ((((BS.deal s) : Nat) : Int) + 1))), (AV.int IntKind.i64 (((BS.asked s) : Nat) : Int)), (AV.rslice 2 0 (((fr) + (List.length (BS.pend s))) + 1)), (AV.int IntKind.i64 (IntKind.wrap IntKind.i64 ((((fr) : Nat) : Int) + 1)))] 129 6 false)))))))))))))))))))
 (((TV.v (AV.ptr 0 0)) = (TV.v (AV.ptr 0 0))) ∧
 (((TV.v (AV.ptr 0 0)) = (TV.v (AV.ptr 0 0))) ∧
 (((TV.v (AV.ptr 0 2)) = (TV.v (AV.ptr 0 2))) ∧
 (((TV.v (AV.int IntKind.i64 (IntKind.wrap IntKind.i64 ((((BS.deal s) : Nat) : Int) + 1)))) = (TV.v (AV.int IntKind.i64 (IntKind.wrap IntKind.i64 ((((BS.deal s) : Nat) : Int) + 1))))) ∧
 (((TV.v (AV.int IntKind.i64 (IntKind.wrap IntKind.i64 ((IntKind.wrap IntKind.i64 ((((BS.deal s) : Nat) : Int) + 1)) - 1)))) = (TV.v (AV.int IntKind.i64 (IntKind.wrap IntKind.i64 ((IntKind.wrap IntKind.i64 ((((BS.deal s) : Nat) : Int) + 1)) - 1))))) ∧
 (((TV.v (AV.ptr 0 0)) = (TV.v (AV.ptr 0 0))) ∧
 (((TV.v (AV.ptr 0 0)) = (TV.v (AV.ptr 0 0))) ∧
 (((TV.v (AV.ptr 0 2)) = (TV.v (AV.ptr 0 2))) ∧
 (((TV.v (AV.int IntKind.i64 (IntKind.wrap IntKind.i64 ((((BS.deal s) : Nat) : Int) + 1)))) = (TV.v (AV.int IntKind.i64 (IntKind.wrap IntKind.i64 ((((BS.deal s) : Nat) : Int) + 1))))) ∧
 (((TV.v (AV.int IntKind.i64 (IntKind.wrap IntKind.i64 ((IntKind.wrap IntKind.i64 ((((BS.deal s) : Nat) : Int) + 1)) - 1)))) = (TV.v (AV.int IntKind.i64 (IntKind.wrap IntKind.i64 ((IntKind.wrap IntKind.i64 ((((BS.deal s) : Nat) : Int) + 1)) - 1))))) ∧
 (((TV.v (AV.ptr 0 0)) = (TV.v (AV.ptr 0 0))) ∧
 (((TV.v (AV.ptr 0 0)) = (TV.v (AV.ptr 0 0))) ∧
 (((TV.v (AV.ptr 0 1)) = (TV.v (AV.ptr 0 1))) ∧
 (((TV.v (AV.int IntKind.i64 (IntKind.wrap IntKind.i64 ((((BS.came s) : Nat) : Int) + 1)))) = (TV.v (AV.int IntKind.i64 (IntKind.wrap IntKind.i64 ((((BS.came s) : Nat) : Int) + 1))))) ∧
 (((TV.v (AV.int IntKind.i64 (IntKind.wrap IntKind.i64 ((IntKind.wrap IntKind.i64 ((((BS.came s) : Nat) : Int) + 1)) - 1)))) = (TV.v (AV.int IntKind.i64 (IntKind.wrap IntKind.i64 ((IntKind.wrap IntKind.i64 ((((BS.came s) : Nat) : Int) + 1)) - 1))))) ∧
 (Q (AV.tuple [(AV.int IntKind.i64 (IntKind.wrap IntKind.i64 ((IntKind.wrap IntKind.i64 ((((BS.came s) : Nat) : Int) + 1)) - 1))), (AV.slice 6 [(AV.agg [(AV.int IntKind.i64 (IntKind.wrap IntKind.i64 ((IntKind.wrap IntKind.i64 ((((BS.deal s) : Nat) : Int) + 1)) - 1))), (AV.int IntKind.i64 (IntKind.wrap IntKind.i64 ((IntKind.wrap IntKind.i64 ((((BS.deal s) : Nat) : Int) + 1)) - 1))), (AV.int IntKind.i64 (T.k x2)), (AV.int IntKind.i64 (T.n x2)), (AV.str (T.s x2)), (AV.slice 4 (tcellL (T.l x2)) Cap.any)])] Cap.full), (AV.int IntKind.i64 0)]) (State.set (State.set (State.set (State.set (State.set (State.set (State.new (State.set (State.untok (State.untok (aloneR s pre fr))) 1 AObj.dead) (AObj.cells ((List.take (((fr) + (List.length (BS.pend s))) * 4) ((pre) ++ (flat (tcellL (BS.pend s))))) ++ [(AV.int IntKind.i64 0), (AV.int IntKind.i64 0), (AV.str ⟨⟨[]⟩⟩), AV.nilslice]) 37 4 true)) 0 (AObj.cells [(AV.int IntKind.i64 (BS.room s)), (AV.int IntKind.i64 (((BS.came s) : Nat) : Int)), (AV.int IntKind.i64 (((BS.deal s) : Nat) : Int)), (AV.int IntKind.i64 (((BS.asked s) : Nat) : Int)), (AV.rslice 2 0 (((fr) + (List.length (BS.pend s))) + 1)), (AV.int IntKind.i64 (((fr) : Nat) : Int))] 129 6 false)) 2 (AObj.cells (asplice ((List.take (((fr) + (List.length (BS.pend s))) * 4) ((pre) ++ (flat (tcellL (BS.pend s))))) ++ [(AV.int IntKind.i64 0), (AV.int IntKind.i64 0), (AV.str ⟨⟨[]⟩⟩), AV.nilslice]) ((0 + (Int.toNat ((((fr) + (List.length (BS.pend s))) : Nat) : Int))) * 4) [(AV.int IntKind.i64 (T.k t1)), (AV.int IntKind.i64 (T.n t1)), (AV.str (T.s t1)), (AV.slice 4 (tcellL (T.l t1)) Cap.any)]) 37 4 true)) 0 (AObj.cells [(AV.int IntKind.i64 (BS.room s)), (AV.int IntKind.i64 (IntKind.wrap IntKind.i64 ((((BS.came s) : Nat) : Int) + 1))), (AV.int IntKind.i64 (((BS.deal s) : Nat) : Int)), (AV.int IntKind.i64 (((BS.asked s) : Nat) : Int)), (AV.rslice 2 0 (((fr) + (List.length (BS.pend s))) + 1)), (AV.int IntKind.i64 (((fr) : Nat) : Int))] 129 6 false)) 0 (AObj.cells [(AV.int IntKind.i64 (BS.room s)), (AV.int IntKind.i64 (IntKind.wrap IntKind.i64 ((((BS.came s) : Nat) : Int) + 1))), (AV.int IntKind.i64 (IntKind.wrap IntKind.i64 ((((BS.deal s) : Nat) : Int) + 1))), (AV.int IntKind.i64 (((BS.asked s) : Nat) : Int)), (AV.rslice 2 0 (((fr) + (List.length (BS.pend s))) + 1)), (AV.int IntKind.i64 (((fr) : Nat) : Int))] 129 6 false)) 2 (AObj.cells (asplice (asplice ((List.take (((fr) + (List.length (BS.pend s))) * 4) ((pre) ++ (flat (tcellL (BS.pend s))))) ++ [(AV.int IntKind.i64 0), (AV.int IntKind.i64 0), (AV.str ⟨⟨[]⟩⟩), AV.nilslice]) ((0 + (Int.toNat ((((fr) + (List.length (BS.pend s))) : Nat) : Int))) * 4) [(AV.int IntKind.i64 (T.k t1)), (AV.int IntKind.i64 (T.n t1)), (AV.str (T.s t1)), (AV.slice 4 (tcellL (T.l t1)) Cap.any)]) ((0 + (Int.toNat (((fr) : Nat) : Int))) * 4) [(AV.int IntKind.i64 0), (AV.int IntKind.i64 0), (AV.str ⟨⟨[]⟩⟩), AV.nilslice]) 37 4 true)) 0 (AObj.cells [(AV.int IntKind.i64 (BS.room s)), (AV.int IntKind.i64 (IntKind.wrap IntKind.i64 ((((BS.came s) : Nat) : Int) + 1))), (AV.int IntKind.i64 (IntKind.wrap IntKind.i64 ((((BS.deal s) : Nat) : Int) + 1))), (AV.int IntKind.i64 (((BS.asked s) : Nat) : Int)), (AV.rslice 2 0 (((fr) + (List.length (BS.pend s))) + 1)), (AV.int IntKind.i64 (IntKind.wrap IntKind.i64 ((((fr) : Nat) : Int) + 1)))] 129 6 false))))))))))))))))))))))))))))))))))))))))))))))))))))) := by kernel_rfl
end Go.V
/- Buffers: Ask and Put. -/
set_option maxRecDepth 1000000
set_option linter.unusedVariables false
set_option linter.unusedSimpArgs false
set_option linter.unusedSectionVars false
namespace Go.V
open Go Go.Proofs

/-- A delivery, as a value. -/
def dealV (k : Nat) (t : T) : AV := .agg (.int .i64 k :: .int .i64 k :: tc t)
def BS.dealt (s : BS) : AV × BS :=
  match s.pend with
  | x :: p => if s.deal < s.asked then (.slice 6 [dealV s.deal x] .full, { s with deal := s.deal + 1, pend := p }) else (.nilslice, s)
  | [] => (.nilslice, s)
def retV (k : Nat) (d : AV) (e : Int) : AV := .tuple [.int .i64 k, d, .int .i64 e]
def BS.ask (s : BS) : AV × BS :=
  if 20000 ≤ s.asked then (retV 0 .nilslice 91, s) else (retV s.asked (BS.dealt { s with asked := s.asked + 1 }).1 0, (BS.dealt { s with asked := s.asked + 1 }).2)
def BS.put (s : BS) (t : T) : AV × BS :=
  if chkT t ≠ 0 then (retV 0 .nilslice 3, s) else if 20000 ≤ s.came then (retV 0 .nilslice 91, s) else
    (retV s.came (BS.dealt { s with came := s.came + 1, pend := s.pend ++ [t] }).1 0, (BS.dealt { s with came := s.came + 1, pend := s.pend ++ [t] }).2)

theorem dealV_noId (k : Nat) (t : T) : NoId (dealV k t) ∧ ∀ x ∈ (dealV k t).cells, NoId x := by
  have h : ∀ x ∈ (AV.int .i64 k :: AV.int .i64 k :: tc t), NoId x := by
    intro x hx
    rcases List.mem_cons.1 hx with rfl | hx
    · exact .int _ _
    · rcases List.mem_cons.1 hx with rfl | hx
      · exact .int _ _
      · exact tc_noId t x hx
  exact ⟨.agg h, h⟩
theorem deals_noId (s : BS) : NoId s.dealt.1 := by
  unfold BS.dealt
  split
  · split
    · refine .slice (by simp) fun x hx => ?_
      simp only [flat, List.flatMap_cons, List.flatMap_nil, List.append_nil] at hx
      exact (dealV_noId _ _).2 x hx
    · exact .nilslice
  · exact .nilslice
theorem retV_noId {k : Nat} {d : AV} {e : Int} (h : NoId d) : NoId (retV k d e) := .tuple fun x hx => by
  simp only [List.mem_cons, List.not_mem_nil, or_false] at hx
  rcases hx with rfl | rfl | rfl
  · exact .int _ _
  · exact h
  · exact .int _ _

theorem wr_nat {n : Nat} (h : n ≤ 1000000) : IntKind.wrap .i64 ((n : Int) + 1) = ((n + 1 : Nat) : Int) := by rw [wr_small (by omega) (by omega)]; omega
theorem wr_back {n : Nat} (h : n ≤ 1000000) : IntKind.wrap .i64 (((n + 1 : Nat) : Int) - 1) = (n : Int) := by rw [wr_small (by omega) (by omega)]; omega
theorem wr_two {n : Nat} (h : n ≤ 1000000) : IntKind.wrap .i64 (2 * ((n + 1 : Nat) : Int)) = ((2 * (n + 1) : Nat) : Int) := by rw [wr_small (by omega) (by omega)]; omega

theorem none68_noId : ∀ x ∈ none68, NoId x := fun x hx => by
  simp only [none68, List.mem_cons, List.not_mem_nil, or_false] at hx
  rcases hx with rfl | rfl | rfl | rfl
  · exact .int _ _
  · exact .int _ _
  · exact .str _
  · exact .nilslice

theorem row_splice (pre : List AV) (x : T) (p : List T) {n : Nat} (hp : pre.length = n) : asplice (pre ++ flat (tcellL (x :: p))) n none68 = (pre ++ none68) ++ flat (tcellL p) := by
  subst hp
  unfold asplice
  rw [List.take_left, tcellL, flat_cons, tcell_eq]
  congr 1
  show List.drop (pre.length + 4) (pre ++ (tc x ++ flat (tcellL p))) = _
  rw [← List.append_assoc, List.drop_left']
  simp [tc]

theorem chunk_tcellL : ∀ l : List T, chunk (some 4) (flat (tcellL l)) l.length = tcellL l
  | [] => rfl
  | x :: l => by
    rw [tcellL, flat_cons, List.length_cons, tcell_eq]
    show AV.agg (((tc x) ++ flat (tcellL l)).take 4) :: chunk (some 4) (((tc x) ++ flat (tcellL l)).drop 4) _ = _
    rw [List.take_left' (by rfl), List.drop_left' (by rfl), chunk_tcellL l]

theorem row_rest (pre : List AV) (p : List T) {n m : Nat} (hp : pre.length + 4 = n) (hm : p.length * 4 = m) : (((pre ++ none68) ++ flat (tcellL p)).drop n).take m = flat (tcellL p) := by
  rw [List.drop_left' (by simp [none68]; omega), List.take_of_length_le (by rw [flat_tcellL_length]; omega)]

theorem row_first (pre : List AV) (x : T) (p : List T) {n : Nat} (hp : pre.length = n) : ((pre ++ flat (tcellL (x :: p))).drop n).take 4 = tc x := by
  rw [List.drop_left' hp, tcellL, flat_cons, tcell_eq]
  exact List.take_left' rfl

/-- The queue, when its first item is taken. -/
theorem popped_at {σ : State} {s : BS} {p : List T} {pre : List AV} {fr : Nat} (h0 : 1 < σ.next) (ho : σ.objs 0 = bufO s (.rslice 1 0 (fr + (p.length + 1))) (fr + 1)) (hr : σ.objs 1 = .cells ((pre ++ none68) ++ flat (tcellL p)) 37 4 true)
    (hs : s.pend = p) (hp : pre.length = fr * 4) (hl : fr + (p.length + 1) ≤ s.came) (hn : ∀ x ∈ pre, NoId x) (h1 : pre.all AV.one = true) : BufAt σ 0 (some 1) s := by
  subst hs
  refine ⟨by omega, _, _, ho, ?_⟩
  have e : fr + (s.pend.length + 1) = (fr + 1) + s.pend.length := by omega
  rw [e]
  refine .row 1 (pre ++ none68) (fr + 1) (by omega) h0 hr (by simp [none68]; omega) (by omega) (fun x hx => ?_) (by rw [List.all_append, h1]; rfl)
  rcases List.mem_append.1 hx with hx | hx
  · exact hn x hx
  · exact none68_noId x hx
theorem fresh_at {σ : State} {s : BS} {r : Nat} (h0 : r < σ.next) (hr0 : r ≠ 0) (ho : σ.objs 0 = bufO s (.rslice r 0 s.pend.length) 0) (hr : σ.objs r = .cells (flat (tcellL s.pend)) 37 4 true) (hl : s.pend.length ≤ s.came) : BufAt σ 0 (some r) s := by
  refine ⟨by omega, _, _, ho, ?_⟩
  have := QAt.row (σ := σ) (b := 0) (s := s) r [] 0 hr0 h0 (by rw [hr]; rfl) rfl (by omega) (by simp) rfl
  rwa [Nat.zero_add] at this
theorem nil_at {σ : State} {s : BS} (h0 : 0 < σ.next) (ho : σ.objs 0 = bufO s .nilslice 0) (hp : s.pend = []) : BufAt σ 0 none s := ⟨h0, _, _, ho, .nil hp⟩
theorem same_at {σ : State} {s : BS} {pre : List AV} {fr : Nat} (h0 : 1 < σ.next) (ho : σ.objs 0 = bufO s (.rslice 1 0 (fr + s.pend.length)) fr) (hr : σ.objs 1 = rowO pre s.pend)
    (hp : pre.length = fr * 4) (hl : fr + s.pend.length ≤ s.came) (hn : ∀ x ∈ pre, NoId x) (h1 : pre.all AV.one = true) : BufAt σ 0 (some 1) s :=
  ⟨by omega, _, _, ho, .row 1 pre fr (by omega) h0 hr hp hl hn h1⟩

section
variable {B : Nat} {w0 : World} {G : Nat → AV}

theorem ask_a {s : BS} (hs : s.wf) (hp : s.pend = []) : ACalls (EV B w0 G) 22 [.ptr 0 0] (aloneN s) (fun v σ' => ∃ s' r', (v, s') = s.ask ∧ NoId v ∧ BufAt σ' 0 r' s') := by
  have hd : s.deal = s.came := by have := hs.pend; rw [hp] at this; simpa using this
  have ha := hs.asked
  have w1 := wr_nat (n := s.asked) (by omega)
  have w2 := wr_back (n := s.asked) (by omega)
  refine bodyC_ok (EV_mixed B w0 G) (hnd_ok (EV_mixed B w0 G) contracts_nil) (fun l hl _ Q a σ k => k.elim) ((vc22a B w0 G s _).mpr ?_)
  refine bcase_of (fun h => ?_) (fun h => ?_)
  · have h : 20000 ≤ s.asked := by have := of_decide_eq_true h; omega
    exact ⟨s, none, by rw [BS.ask, if_pos h]; rfl, retV_noId .nilslice, nil_at (show 0 < 1 by decide) rfl hp⟩
  · have h : ¬ 20000 ≤ s.asked := by have := of_decide_eq_false h; omega
    rw [w1, w2]
    refine bcase_of (fun h' => ?_) (fun h' => by simp [hd] at h')
    have he : s.ask = (retV s.asked .nilslice 0, { s with asked := s.asked + 1 }) := by rw [BS.ask, if_neg h]; simp [BS.dealt, hp]
    rw [he]
    exact ⟨rfl, rfl, rfl, rfl, rfl, _, none, rfl, retV_noId .nilslice, nil_at (show 0 < 1 by decide) rfl hp⟩

theorem ask_b {s : BS} (hs : s.wf) {pre : List AV} {fr : Nat} (hpl : pre.length = fr * 4) (hlen : fr + s.pend.length ≤ s.came) (hn : ∀ x ∈ pre, NoId x) (h1 : pre.all AV.one = true) :
    ACalls (EV B w0 G) 22 [.ptr 0 0] (aloneR s pre fr) (fun v σ' => ∃ s' r', (v, s') = s.ask ∧ NoId v ∧ BufAt σ' 0 r' s') := by
  have ha := hs.asked
  have hdd := hs.deal
  have hpd := hs.pend
  have hcm := hs.came
  have w1 := wr_nat (n := s.asked) (by omega)
  have w2 := wr_back (n := s.asked) (by omega)
  have w3 := wr_nat (n := s.deal) (by omega)
  have w4 := wr_back (n := s.deal) (by omega)
  have w5 := wr_nat (n := fr) (by omega)
  have w6 := wr_two (n := fr) (by omega)
  refine bodyC_ok (EV_mixed B w0 G) (hnd_ok (EV_mixed B w0 G) contracts_nil) (fun l hl _ Q a σ k => k.elim) ((vc22b B w0 G s pre fr _).mpr ?_)
  refine bcase_of (fun h => ?_) (fun h => ?_)
  · have h : 20000 ≤ s.asked := by have := of_decide_eq_true h; omega
    exact ⟨s, some 1, by rw [BS.ask, if_pos h]; rfl, retV_noId .nilslice, same_at (show 1 < 2 by decide) rfl rfl hpl hlen hn h1⟩
  · have h : ¬ 20000 ≤ s.asked := by have := of_decide_eq_false h; omega
    rw [w1, w2, w3, w4, w5, w6]
    simp only [Int.toNat_natCast, Nat.zero_add]
    refine bcase_of (fun h' => ?_) (fun h' => bcase_of (fun h2 => ?_) (fun h2 => ?_))
    · have hd : s.deal = s.came := by
        have : (s.deal : Int) = s.came := by simpa using h'
        omega
      have hp : s.pend = [] := List.length_eq_zero_iff.1 (by omega)
      have he : s.ask = (retV s.asked .nilslice 0, { s with asked := s.asked + 1 }) := by rw [BS.ask, if_neg h]; simp [BS.dealt, hp]
      rw [he]
      repeat refine ⟨trivial, ?_⟩
      exact ⟨_, some 1, rfl, retV_noId .nilslice, same_at (show 1 < 2 by decide) rfl rfl hpl hlen hn h1⟩
    · have hd : s.deal = s.asked + 1 := by
        have : (s.deal : Int) = ((s.asked + 1 : Nat) : Int) := by simpa using h2
        omega
      omega
    · have hd : s.deal ≠ s.came := by
        intro e; simp [e] at h'
      obtain ⟨x, p, hxp⟩ : ∃ x p, s.pend = x :: p := by
        cases hq : s.pend with
        | nil => rw [hq] at hpd; simp at hpd; exact absurd hpd hd
        | cons x p => exact ⟨x, p, rfl⟩
      have hpl2 : s.pend.length = p.length + 1 := by rw [hxp]; rfl
      have he : s.ask = (retV s.asked (.slice 6 [dealV s.deal x] .full) 0, { s with asked := s.asked + 1, deal := s.deal + 1, pend := p }) := by
        rw [BS.ask, if_neg h]; simp only [BS.dealt, hxp]; rw [if_pos (show s.deal < s.asked + 1 by omega)]
      have hdn : NoId (.slice 6 [dealV s.deal x] .full) := .slice (by simp) fun y hy => by
        simp only [flat, List.flatMap_cons, List.flatMap_nil, List.append_nil] at hy
        exact (dealV_noId _ _).2 y hy
      rw [he, hxp]
      have hsp := row_splice pre x p hpl
      have hsp' : asplice (pre ++ flat (tcellL (x :: p))) (fr * 4) [(AV.int IntKind.i64 0), (AV.int IntKind.i64 0), (AV.str ⟨⟨[]⟩⟩), AV.nilslice] = (pre ++ none68) ++ flat (tcellL p) := hsp
      rw [hsp', show List.length (x :: p) = p.length + 1 from rfl]
      have hfst := row_first pre x p hpl
      rw [hfst]
      have hsub : fr + (p.length + 1) - (fr + 1) = p.length := by omega
      rw [hsub, row_rest pre p (by omega) rfl, chunk_tcellL]
      have hrl : (pre ++ flat (tcellL (x :: p))).length = fr * 4 + (p.length + 1) * 4 := by rw [List.length_append, hpl, flat_tcellL_length]; rfl
      have hrl2 : (pre ++ none68 ++ flat (tcellL p)).length = (fr + 1) * 4 + p.length * 4 := by rw [List.length_append, List.length_append, hpl, flat_tcellL_length]; simp [none68]; omega
      rw [hrl, hrl2, tcellL_length]
      refine ⟨⟨by omega, by omega⟩, by omega, x, rfl, trivial, trivial, trivial, trivial, trivial, trivial, trivial, trivial, ⟨⟨by omega, by omega⟩, trivial⟩, ⟨by omega, x, rfl, rfl⟩, ⟨by omega, by omega⟩, by omega, ?_⟩
      refine bcase_of (fun _ => bcase_of (fun _ => ⟨⟨by omega, by omega⟩, ⟨by omega, by omega⟩, ⟨by omega, by omega⟩, by omega, bcase_of (fun he => ?_) (fun he => ⟨⟨by omega, by omega⟩, ?_⟩)⟩) (fun _ => ?_)) (fun _ => ?_)
      · have hpn : p = [] := tcellL_nil (by simpa using he)
        repeat refine ⟨trivial, ?_⟩
        exact ⟨_, none, rfl, retV_noId hdn, nil_at (show 0 < 2 by decide) rfl hpn⟩
      · repeat refine ⟨trivial, ?_⟩
        exact ⟨_, some 2, rfl, retV_noId hdn, fresh_at (show 2 < 3 by decide) (by decide) rfl rfl (show p.length ≤ s.came by omega)⟩
      · repeat refine ⟨trivial, ?_⟩
        exact ⟨_, some 1, rfl, retV_noId hdn, popped_at (show 1 < 2 by decide) rfl rfl rfl hpl (show fr + (p.length + 1) ≤ s.came by omega) hn h1⟩
      · repeat refine ⟨trivial, ?_⟩
        exact ⟨_, some 1, rfl, retV_noId hdn, popped_at (show 1 < 2 by decide) rfl rfl rfl hpl (show fr + (p.length + 1) ≤ s.came by omega) hn h1⟩
end
end Go.V
/- Buffers: Put. -/
set_option maxRecDepth 1000000
set_option linter.unusedVariables false
set_option linter.unusedSimpArgs false
set_option linter.unusedSectionVars false
namespace Go.V
open Go Go.Proofs

theorem formB_len {t : T} (h : formB t = true) : t.l.length ≤ 64 := by
  unfold formB at h
  split at h
  · simp only [Bool.and_eq_true, decide_eq_true_eq] at h; omega
  · split at h
    · simp only [Bool.and_eq_true, decide_eq_true_eq] at h; omega
    · split at h
      · simp only [Bool.and_eq_true, decide_eq_true_eq] at h; omega
      · split at h
        · simp only [Bool.and_eq_true, decide_eq_true_eq] at h; omega
        · split at h
          · simp only [Bool.and_eq_true, decide_eq_true_eq] at h; omega
          · split at h
            · simp only [Bool.and_eq_true, decide_eq_true_eq] at h; omega
            · cases h

theorem wr_id {n : Int} (h1 : -1000000 ≤ n) (h2 : n ≤ 1000000) : wr n = n := wr_small (by omega) (by omega)

mutual
theorem count_small : ∀ (t : T) (left deep : Int), 0 ≤ left → left ≤ 4000 → (1 ≤ count t left deep ∧ count t left deep ≤ left + 1) ∧ (count t left deep ≤ left → t.small)
  | .mk k n s l, left, deep, h0, h1 => by
    rw [count]
    split
    · rename_i hb
      have hl : 1 ≤ left := by
        unfold nodeB at hb
        simp at hb; omega
      have hf : formB (.mk k n s l) = true := by
        unfold nodeB at hb
        simp at hb; exact hb.2.2
      have h2 := countL_small l 1 left deep (by omega) hl h1
      exact ⟨h2.1, fun h => by rw [T.small]; exact ⟨formB_len hf, h2.2 h⟩⟩
    · rw [wr_id (by omega) (by omega)]
      exact ⟨⟨by omega, by omega⟩, fun h => by omega⟩
theorem countL_small : ∀ (l : List T) (n left deep : Int), 1 ≤ n → n ≤ left → left ≤ 4000 → (1 ≤ countL l n left deep ∧ countL l n left deep ≤ left + 1) ∧ (countL l n left deep ≤ left → smallL l)
  | [], n, left, deep, h0, h1, h2 => by
    rw [countL]
    exact ⟨⟨by omega, by omega⟩, fun _ => by rw [smallL]; trivial⟩
  | x :: l, n, left, deep, h0, h1, h2 => by
    rw [countL, wr_id (n := left - n) (by omega) (by omega)]
    have hx := count_small x (left - n) (wr (deep - 1)) (by omega) (by omega)
    generalize count x (left - n) (wr (deep - 1)) = c at hx
    rw [wr_id (n := n + c) (by omega) (by omega)]
    split
    · rw [wr_id (by omega) (by omega)]
      exact ⟨⟨by omega, by omega⟩, fun h => by omega⟩
    · rename_i hc
      have hl := countL_small l (n + c) left deep (by omega) (by omega) h2
      exact ⟨hl.1, fun h => by rw [smallL]; exact ⟨hx.2 (by omega), hl.2 h⟩⟩
end

theorem chk_small {t : T} (h : chkT t = 0) : t.small := by
  unfold chkT at h
  split at h
  · cases h
  · exact (count_small t 4000 600 (by omega) (by omega)).2 (by omega)

theorem row_push (pre : List AV) (l : List T) (t : T) {n : Nat} (hn : (pre ++ flat (tcellL l)).length = n) : asplice ((pre ++ flat (tcellL l)) ++ none68) n (tc t) = pre ++ flat (tcellL (l ++ [t])) := by
  unfold asplice
  rw [List.take_left' hn, List.drop_of_length_le (by rw [List.length_append, hn]; simp [none68, tc]), List.append_nil, List.append_assoc]
  congr 1
  have : tcellL (l ++ [t]) = tcellL l ++ [tcell t] := by simp [tcellL_eq]
  rw [this, flat_append, tcell_eq]
  simp [flat, AV.cells]

/-- The queue, when its first item is taken; its row lies anywhere. -/
theorem popped_at' {σ : State} {s : BS} {p : List T} {pre : List AV} {fr r : Nat} (hr0 : r ≠ 0) (h0 : r < σ.next) (ho : σ.objs 0 = bufO s (.rslice r 0 (fr + (p.length + 1))) (fr + 1)) (hr : σ.objs r = .cells ((pre ++ none68) ++ flat (tcellL p)) 37 4 true)
    (hs : s.pend = p) (hp : pre.length = fr * 4) (hl : fr + (p.length + 1) ≤ s.came) (hn : ∀ x ∈ pre, NoId x) (h1 : pre.all AV.one = true) : BufAt σ 0 (some r) s := by
  subst hs
  refine ⟨by omega, _, _, ho, ?_⟩
  have e : fr + (s.pend.length + 1) = (fr + 1) + s.pend.length := by omega
  rw [e]
  refine .row r (pre ++ none68) (fr + 1) hr0 h0 hr (by simp [none68]; omega) (by omega) (fun x hx => ?_) (by rw [List.all_append, h1]; rfl)
  rcases List.mem_append.1 hx with hx | hx
  · exact hn x hx
  · exact none68_noId x hx
theorem same_at' {σ : State} {s : BS} {pre : List AV} {fr r n : Nat} (hr0 : r ≠ 0) (h0 : r < σ.next) (ho : σ.objs 0 = bufO s (.rslice r 0 n) fr) (hr : σ.objs r = rowO pre s.pend)
    (hp : pre.length = fr * 4) (hl : fr + s.pend.length ≤ s.came) (hln : n = fr + s.pend.length) (hn : ∀ x ∈ pre, NoId x) (h1 : pre.all AV.one = true) : BufAt σ 0 (some r) s := by
  subst hln
  exact ⟨by omega, _, _, ho, .row r pre fr hr0 h0 hr hp hl hn h1⟩

section
variable {B : Nat} {w0 : World} {G : Nat → AV} (hG : ∀ i, NoId (G i))
include hG
theorem put_b {s : BS} {t : T} (hs : s.wf) {pre : List AV} {fr : Nat} (hpl : pre.length = fr * 4) (hlen : fr + s.pend.length ≤ s.came) (hn : ∀ x ∈ pre, NoId x) (h1 : pre.all AV.one = true) :
    ACalls (EV B w0 G) 24 [.ptr 0 0, .agg (tc t)] (aloneR s pre fr) (fun v σ' => ∃ s' r', (v, s') = s.put t ∧ NoId v ∧ BufAt σ' 0 r' s') := by
  have hc := hs.came
  have ha := hs.asked
  have hdd := hs.deal
  have hpd := hs.pend
  have w1 := wr_nat (n := s.came) (by omega)
  have w2 := wr_back (n := s.came) (by omega)
  have w3 := wr_nat (n := s.deal) (by omega)
  have w4 := wr_back (n := s.deal) (by omega)
  have w5 := wr_nat (n := fr) (by omega)
  have w6 := wr_two (n := fr) (by omega)
  refine bodyC_ok (EV_mixed B w0 G) (hnd_ok (EV_mixed B w0 G) (contracts_cons (c66_ok hG) (contracts_cons (c68_ok hG (SizeOf.sizeOf t + 1)) contracts_nil))) (fun l hl _ Q a σ k => k.elim) ((vc24b B w0 G (SizeOf.sizeOf t + 1) t s pre fr _).mpr ⟨t, rfl, ?_⟩)
  refine bcase_of (fun h => ?_) (fun h => bcase_of (fun h2 => ?_) (fun h2 => ?_))
  · have h : chkT t ≠ 0 := by simpa using h
    exact ⟨s, some 1, by rw [BS.put, if_pos h]; rfl, retV_noId .nilslice, same_at (show 1 < 2 by decide) rfl rfl hpl hlen hn h1⟩
  · have h : ¬ chkT t ≠ 0 := by simpa using h
    have h2 : 20000 ≤ s.came := by have := of_decide_eq_true h2; omega
    exact ⟨s, some 1, by rw [BS.put, if_neg h, if_pos h2]; rfl, retV_noId .nilslice, same_at (show 1 < 2 by decide) rfl rfl hpl hlen hn h1⟩
  · have h : ¬ chkT t ≠ 0 := by simpa using h
    have h2 : ¬ 20000 ≤ s.came := by have := of_decide_eq_false h2; omega
    have hsm := chk_small (t := t) (by simpa using h)
    refine ⟨t, rfl, ⟨hsm, Nat.lt_succ_self _⟩, ?_⟩
    have hput : s.put t = (retV s.came (BS.dealt { s with came := s.came + 1, pend := s.pend ++ [t] }).1 0, (BS.dealt { s with came := s.came + 1, pend := s.pend ++ [t] }).2) := by
      rw [BS.put, if_neg h, if_neg h2]
    have hrl : (pre ++ flat (tcellL s.pend)).length = (fr + s.pend.length) * 4 := by rw [List.length_append, hpl, flat_tcellL_length]; omega
    have e1 : List.take ((fr + s.pend.length) * 4) (pre ++ flat (tcellL s.pend)) = pre ++ flat (tcellL s.pend) := List.take_of_length_le (by omega)
    have e2 : asplice (pre ++ flat (tcellL s.pend) ++ [AV.int IntKind.i64 0, AV.int IntKind.i64 0, AV.str ⟨⟨[]⟩⟩, AV.nilslice]) ((fr + s.pend.length) * 4) [AV.int IntKind.i64 t.k, AV.int IntKind.i64 t.n, AV.str t.s, AV.slice 4 (tcellL t.l) Cap.any] = pre ++ flat (tcellL (s.pend ++ [t])) :=
      row_push pre s.pend t hrl
    obtain ⟨x, p, hxp⟩ : ∃ x p, s.pend ++ [t] = x :: p := by
      cases hq : s.pend with
      | nil => exact ⟨t, [], rfl⟩
      | cons x p => exact ⟨x, p ++ [t], rfl⟩
    have hpl2 : s.pend.length = p.length := by have := congrArg List.length hxp; simp at this; omega
    rw [hput, w1, w2, w3, w4, w5, w6]
    simp only [Int.toNat_natCast, Nat.zero_add]
    rw [e1, e2, hxp, hrl]
    have hsp' : asplice (pre ++ flat (tcellL (x :: p))) (fr * 4) [(AV.int IntKind.i64 0), (AV.int IntKind.i64 0), (AV.str ⟨⟨[]⟩⟩), AV.nilslice] = (pre ++ none68) ++ flat (tcellL p) := row_splice pre x p hpl
    rw [hsp', row_first pre x p hpl, hpl2]
    have hsub : fr + p.length + 1 - (fr + 1) = p.length := by omega
    rw [hsub, row_rest pre p (by omega) rfl, chunk_tcellL]
    have hrl1 : (pre ++ flat (tcellL (x :: p))).length = fr * 4 + (p.length + 1) * 4 := by rw [List.length_append, hpl, flat_tcellL_length]; rfl
    have hrl2 : (pre ++ none68 ++ flat (tcellL p)).length = (fr + 1) * 4 + p.length * 4 := by rw [List.length_append, List.length_append, hpl, flat_tcellL_length]; simp [none68]; omega
    rw [hrl1, hrl2, tcellL_length]
    have hdn : NoId (.slice 6 [dealV s.deal x] .full) := .slice (by simp) fun y hy => by
      simp only [flat, List.flatMap_cons, List.flatMap_nil, List.append_nil] at hy
      exact (dealV_noId _ _).2 y hy
    have hrl3 : (pre ++ flat (tcellL s.pend) ++ [AV.int IntKind.i64 0, AV.int IntKind.i64 0, AV.str ⟨⟨[]⟩⟩, AV.nilslice]).length = (fr + p.length) * 4 + 4 := by
      rw [List.length_append, hrl, hpl2]; rfl
    rw [hrl3]
    repeat refine ⟨trivial, ?_⟩
    refine ⟨⟨trivial, ⟨by omega, by omega⟩, by omega⟩, ⟨by omega, by omega⟩, ⟨by omega, ?_⟩, ?_⟩
    · repeat refine ⟨trivial, ?_⟩
      refine bcase_of (fun h' => absurd h' (by simp; omega)) (fun _ => bcase_of (fun h3 => ?_) (fun h3 => ?_))
      · have h3 : s.deal = s.asked := by
          have : (s.deal : Int) = s.asked := by simpa using h3
          omega
        have hd : BS.dealt { s with came := s.came + 1, pend := x :: p } = (.nilslice, { s with came := s.came + 1, pend := x :: p }) := by
          simp only [BS.dealt]; rw [if_neg (show ¬ s.deal < s.asked by omega)]
        rw [hd]
        repeat refine ⟨trivial, ?_⟩
        exact ⟨_, some 2, rfl, retV_noId .nilslice, same_at' (show 2 ≠ 0 by decide) (show 2 < 3 by decide) rfl rfl hpl (show fr + (p.length + 1) ≤ s.came + 1 by omega) (show fr + p.length + 1 = fr + (p.length + 1) by omega) hn h1⟩
      · have h3 : s.deal ≠ s.asked := by
          intro e; simp [e] at h3
        have hd : BS.dealt { s with came := s.came + 1, pend := x :: p } = (.slice 6 [dealV s.deal x] .full, { s with came := s.came + 1, deal := s.deal + 1, pend := p }) := by
          simp only [BS.dealt]; rw [if_pos (show s.deal < s.asked by omega)]
        rw [hd]
        refine ⟨⟨by omega, by omega⟩, by omega, x, rfl, ?_⟩
        repeat refine ⟨trivial, ?_⟩
        refine ⟨⟨⟨by omega, by omega⟩, trivial⟩, ⟨by omega, x, rfl, rfl⟩, ⟨by omega, by omega⟩, by omega, ?_⟩
        refine bcase_of (fun _ => bcase_of (fun _ => ⟨⟨by omega, by omega⟩, ⟨by omega, by omega⟩, ⟨by omega, by omega⟩, by omega, bcase_of (fun he => ?_) (fun he => ⟨⟨by omega, by omega⟩, ?_⟩)⟩) (fun _ => ?_)) (fun _ => ?_)
        · have hpn : p = [] := tcellL_nil (by simpa using he)
          repeat refine ⟨trivial, ?_⟩
          exact ⟨_, none, rfl, retV_noId hdn, nil_at (show 0 < 3 by decide) rfl hpn⟩
        · repeat refine ⟨trivial, ?_⟩
          exact ⟨_, some 3, rfl, retV_noId hdn, fresh_at (show 3 < 4 by decide) (by decide) rfl rfl (show p.length ≤ s.came + 1 by omega)⟩
        · repeat refine ⟨trivial, ?_⟩
          exact ⟨_, some 2, rfl, retV_noId hdn, popped_at' (show 2 ≠ 0 by decide) (show 2 < 3 by decide) rfl rfl rfl hpl (show fr + (p.length + 1) ≤ s.came + 1 by omega) hn h1⟩
        · repeat refine ⟨trivial, ?_⟩
          exact ⟨_, some 2, rfl, retV_noId hdn, popped_at' (show 2 ≠ 0 by decide) (show 2 < 3 by decide) rfl rfl rfl hpl (show fr + (p.length + 1) ≤ s.came + 1 by omega) hn h1⟩
    · repeat refine ⟨trivial, ?_⟩
      refine ⟨⟨⟨by omega, by omega⟩, trivial⟩, by omega, ?_⟩
      repeat refine ⟨trivial, ?_⟩
      refine bcase_of (fun h' => absurd h' (by simp; omega)) (fun _ => bcase_of (fun h3 => ?_) (fun h3 => ?_))
      · have h3 : s.deal = s.asked := by
          have : (s.deal : Int) = s.asked := by simpa using h3
          omega
        have hd : BS.dealt { s with came := s.came + 1, pend := x :: p } = (.nilslice, { s with came := s.came + 1, pend := x :: p }) := by
          simp only [BS.dealt]; rw [if_neg (show ¬ s.deal < s.asked by omega)]
        rw [hd]
        repeat refine ⟨trivial, ?_⟩
        exact ⟨_, some 2, rfl, retV_noId .nilslice, same_at' (show 2 ≠ 0 by decide) (show 2 < 3 by decide) rfl rfl hpl (show fr + (p.length + 1) ≤ s.came + 1 by omega) (show fr + p.length + 1 = fr + (p.length + 1) by omega) hn h1⟩
      · have h3 : s.deal ≠ s.asked := by
          intro e; simp [e] at h3
        have hd : BS.dealt { s with came := s.came + 1, pend := x :: p } = (.slice 6 [dealV s.deal x] .full, { s with came := s.came + 1, deal := s.deal + 1, pend := p }) := by
          simp only [BS.dealt]; rw [if_pos (show s.deal < s.asked by omega)]
        rw [hd]
        refine ⟨⟨by omega, by omega⟩, by omega, x, rfl, ?_⟩
        repeat refine ⟨trivial, ?_⟩
        refine ⟨⟨⟨by omega, by omega⟩, trivial⟩, ⟨by omega, x, rfl, rfl⟩, ⟨by omega, by omega⟩, by omega, ?_⟩
        refine bcase_of (fun _ => bcase_of (fun _ => ⟨⟨by omega, by omega⟩, ⟨by omega, by omega⟩, ⟨by omega, by omega⟩, by omega, bcase_of (fun he => ?_) (fun he => ⟨⟨by omega, by omega⟩, ?_⟩)⟩) (fun _ => ?_)) (fun _ => ?_)
        · have hpn : p = [] := tcellL_nil (by simpa using he)
          repeat refine ⟨trivial, ?_⟩
          exact ⟨_, none, rfl, retV_noId hdn, nil_at (show 0 < 3 by decide) rfl hpn⟩
        · repeat refine ⟨trivial, ?_⟩
          exact ⟨_, some 3, rfl, retV_noId hdn, fresh_at (show 3 < 4 by decide) (by decide) rfl rfl (show p.length ≤ s.came + 1 by omega)⟩
        · repeat refine ⟨trivial, ?_⟩
          exact ⟨_, some 2, rfl, retV_noId hdn, popped_at' (show 2 ≠ 0 by decide) (show 2 < 3 by decide) rfl rfl rfl hpl (show fr + (p.length + 1) ≤ s.came + 1 by omega) hn h1⟩
        · repeat refine ⟨trivial, ?_⟩
          exact ⟨_, some 2, rfl, retV_noId hdn, popped_at' (show 2 ≠ 0 by decide) (show 2 < 3 by decide) rfl rfl rfl hpl (show fr + (p.length + 1) ≤ s.came + 1 by omega) hn h1⟩

theorem put_a {s : BS} {t : T} (hs : s.wf) (hp : s.pend = []) : ACalls (EV B w0 G) 24 [.ptr 0 0, .agg (tc t)] (aloneN s) (fun v σ' => ∃ s' r', (v, s') = s.put t ∧ NoId v ∧ BufAt σ' 0 r' s') := by
  have hc := hs.came
  have ha := hs.asked
  have hdd := hs.deal
  have hpd := hs.pend
  have hdc : s.deal = s.came := by rw [hp] at hpd; simpa using hpd
  have w1 := wr_nat (n := s.came) (by omega)
  have w2 := wr_back (n := s.came) (by omega)
  have w3 := wr_nat (n := s.deal) (by omega)
  have w4 := wr_back (n := s.deal) (by omega)
  refine bodyC_ok (EV_mixed B w0 G) (hnd_ok (EV_mixed B w0 G) (contracts_cons (c66_ok hG) (contracts_cons (c68_ok hG (SizeOf.sizeOf t + 1)) contracts_nil))) (fun l hl _ Q a σ k => k.elim) ((vc24a B w0 G (SizeOf.sizeOf t + 1) t s _).mpr ⟨t, rfl, ?_⟩)
  refine bcase_of (fun h => ?_) (fun h => bcase_of (fun h2 => ?_) (fun h2 => ?_))
  · have h : chkT t ≠ 0 := by simpa using h
    exact ⟨s, none, by rw [BS.put, if_pos h]; rfl, retV_noId .nilslice, nil_at (show 0 < 1 by decide) rfl hp⟩
  · have h : ¬ chkT t ≠ 0 := by simpa using h
    have h2 : 20000 ≤ s.came := by have := of_decide_eq_true h2; omega
    exact ⟨s, none, by rw [BS.put, if_neg h, if_pos h2]; rfl, retV_noId .nilslice, nil_at (show 0 < 1 by decide) rfl hp⟩
  · have h : ¬ chkT t ≠ 0 := by simpa using h
    have h2 : ¬ 20000 ≤ s.came := by have := of_decide_eq_false h2; omega
    have hsm := chk_small (t := t) (by simpa using h)
    refine ⟨t, rfl, ⟨hsm, Nat.lt_succ_self _⟩, ?_⟩
    have hput : s.put t = (retV s.came (BS.dealt { s with came := s.came + 1, pend := [t] }).1 0, (BS.dealt { s with came := s.came + 1, pend := [t] }).2) := by
      rw [BS.put, if_neg h, if_neg h2, hp]; rfl
    rw [hput, w1, w2, w3, w4]
    simp only [Int.toNat_natCast, Nat.zero_add]
    have hdn : NoId (.slice 6 [dealV s.deal t] .full) := .slice (by simp) fun y hy => by
      simp only [flat, List.flatMap_cons, List.flatMap_nil, List.append_nil] at hy
      exact (dealV_noId _ _).2 y hy
    repeat refine ⟨trivial, ?_⟩
    refine ⟨⟨by omega, by omega⟩, ⟨by omega, by omega⟩, ⟨by omega, ?_⟩, ?_⟩
    · repeat refine ⟨trivial, ?_⟩
      refine bcase_of (fun h' => absurd h' (by simp; omega)) (fun _ => bcase_of (fun h3 => ?_) (fun h3 => ?_))
      · have h3 : s.deal = s.asked := by
          have : (s.deal : Int) = s.asked := by simpa using h3
          omega
        have hd : BS.dealt { s with came := s.came + 1, pend := [t] } = (.nilslice, { s with came := s.came + 1, pend := [t] }) := by
          simp only [BS.dealt]; rw [if_neg (show ¬ s.deal < s.asked by omega)]
        rw [hd]
        repeat refine ⟨trivial, ?_⟩
        exact ⟨_, some 1, rfl, retV_noId .nilslice, same_at' (pre := []) (fr := 0) (n := 1) (show 1 ≠ 0 by decide) (show 1 < 2 by decide) rfl (by rw [rowO, tcellL, tcellL, tcell_eq]; rfl) rfl (show 0 + 1 ≤ s.came + 1 by omega) rfl (by simp) rfl⟩
      · have h3 : s.deal ≠ s.asked := by
          intro e; simp [e] at h3
        have hd : BS.dealt { s with came := s.came + 1, pend := [t] } = (.slice 6 [dealV s.deal t] .full, { s with came := s.came + 1, deal := s.deal + 1, pend := [] }) := by
          simp only [BS.dealt]; rw [if_pos (show s.deal < s.asked by omega)]
        rw [hd]
        refine ⟨⟨by omega, by omega⟩, by omega, t, rfl, ?_⟩
        repeat refine ⟨trivial, ?_⟩
        refine ⟨⟨⟨by omega, by omega⟩, trivial⟩, ⟨by omega, t, rfl, rfl⟩, ⟨by omega, by omega⟩, by omega, ?_⟩
        repeat refine ⟨trivial, ?_⟩
        exact ⟨_, some 1, rfl, retV_noId hdn, popped_at' (pre := []) (fr := 0) (p := []) (show 1 ≠ 0 by decide) (show 1 < 2 by decide) rfl rfl rfl rfl (show 0 + (0 + 1) ≤ s.came + 1 by omega) (by simp) rfl⟩
    · repeat refine ⟨trivial, ?_⟩
      refine ⟨⟨⟨by omega, by omega⟩, trivial⟩, by omega, ?_⟩
      repeat refine ⟨trivial, ?_⟩
      refine bcase_of (fun h' => absurd h' (by simp; omega)) (fun _ => bcase_of (fun h3 => ?_) (fun h3 => ?_))
      · have h3 : s.deal = s.asked := by
          have : (s.deal : Int) = s.asked := by simpa using h3
          omega
        have hd : BS.dealt { s with came := s.came + 1, pend := [t] } = (.nilslice, { s with came := s.came + 1, pend := [t] }) := by
          simp only [BS.dealt]; rw [if_neg (show ¬ s.deal < s.asked by omega)]
        rw [hd]
        repeat refine ⟨trivial, ?_⟩
        exact ⟨_, some 1, rfl, retV_noId .nilslice, same_at' (pre := []) (fr := 0) (n := 1) (show 1 ≠ 0 by decide) (show 1 < 2 by decide) rfl (by rw [rowO, tcellL, tcellL, tcell_eq]; rfl) rfl (show 0 + 1 ≤ s.came + 1 by omega) rfl (by simp) rfl⟩
      · have h3 : s.deal ≠ s.asked := by
          intro e; simp [e] at h3
        have hd : BS.dealt { s with came := s.came + 1, pend := [t] } = (.slice 6 [dealV s.deal t] .full, { s with came := s.came + 1, deal := s.deal + 1, pend := [] }) := by
          simp only [BS.dealt]; rw [if_pos (show s.deal < s.asked by omega)]
        rw [hd]
        refine ⟨⟨by omega, by omega⟩, by omega, t, rfl, ?_⟩
        repeat refine ⟨trivial, ?_⟩
        refine ⟨⟨⟨by omega, by omega⟩, trivial⟩, ⟨by omega, t, rfl, rfl⟩, ⟨by omega, by omega⟩, by omega, ?_⟩
        repeat refine ⟨trivial, ?_⟩
        exact ⟨_, some 1, rfl, retV_noId hdn, popped_at' (pre := []) (fr := 0) (p := []) (show 1 ≠ 0 by decide) (show 1 < 2 by decide) rfl rfl rfl rfl (show 0 + (0 + 1) ≤ s.came + 1 by omega) (by simp) rfl⟩
end
end Go.V
/- Buffers: the contracts of Ask and Put, in any state. -/
set_option maxRecDepth 1000000
set_option linter.unusedVariables false
set_option linter.unusedSimpArgs false
set_option linter.unusedSectionVars false
namespace Go.V
open Go Go.Proofs

/-- Deliveries, as a value. -/
def dealsV : List (Nat × T) → AV
  | [] => .nilslice
  | (k, t) :: l => .slice 6 (dealV k t :: l.map fun x => dealV x.1 x.2) .full

/-- What is dealt: the deliveries, and the buffer behind. -/
def BS.dealL (s : BS) : List (Nat × T) :=
  match s.pend with
  | x :: _ => if s.deal < s.asked then [(s.deal, x)] else []
  | [] => []
theorem BS.dealt_fst (s : BS) : s.dealt.1 = dealsV s.dealL := by
  unfold BS.dealt BS.dealL
  cases s.pend with
  | nil => rfl
  | cons x p =>
    dsimp only
    split <;> rfl

/-- A request: its number, the deliveries, the error. -/
def BS.askN (s : BS) : Nat := if 20000 ≤ s.asked then 0 else s.asked
def BS.askL (s : BS) : List (Nat × T) := if 20000 ≤ s.asked then [] else BS.dealL { s with asked := s.asked + 1 }
def BS.askE (s : BS) : Int := if 20000 ≤ s.asked then 91 else 0
theorem BS.ask_fst (s : BS) : s.ask.1 = .tuple [.int .i64 s.askN, dealsV s.askL, .int .i64 s.askE] := by
  unfold BS.ask BS.askN BS.askL BS.askE
  split
  · rfl
  · rw [BS.dealt_fst]; rfl
/-- An item: its number, the deliveries, the error. -/
def BS.putN (s : BS) (t : T) : Nat := if chkT t ≠ 0 then 0 else if 20000 ≤ s.came then 0 else s.came
def BS.putL (s : BS) (t : T) : List (Nat × T) := if chkT t ≠ 0 then [] else if 20000 ≤ s.came then [] else BS.dealL { s with came := s.came + 1, pend := s.pend ++ [t] }
def BS.putE (s : BS) (t : T) : Int := if chkT t ≠ 0 then 3 else if 20000 ≤ s.came then 91 else 0
theorem BS.put_fst (s : BS) (t : T) : (s.put t).1 = .tuple [.int .i64 (s.putN t), dealsV (s.putL t), .int .i64 (s.putE t)] := by
  unfold BS.put BS.putN BS.putL BS.putE
  split
  · rfl
  · split
    · rfl
    · rw [BS.dealt_fst]; rfl

theorem dealt_wf {s : BS} (h : s.wf) : s.dealt.2.wf := by
  unfold BS.dealt
  split
  · rename_i x p hp
    split
    · rename_i hd
      have h1 := h.pend
      rw [hp] at h1
      exact ⟨h.came, h.asked, hd, by simp at h1 ⊢; omega, fun t ht => h.small t (by rw [hp]; simp [ht])⟩
    · exact h
  · exact h
theorem ask_wf {s : BS} (h : s.wf) : s.ask.2.wf := by
  unfold BS.ask
  split
  · exact h
  · rename_i hn
    exact dealt_wf ⟨h.came, show s.asked + 1 ≤ 20000 by omega, Nat.le_succ_of_le h.deal, h.pend, h.small⟩
theorem put_wf {s : BS} (h : s.wf) (t : T) : (s.put t).2.wf := by
  unfold BS.put
  split
  · exact h
  · rename_i hc
    split
    · exact h
    · rename_i hn
      refine dealt_wf ⟨show s.came + 1 ≤ 20000 by omega, h.asked, h.deal, ?_, fun x hx => ?_⟩
      · have := h.pend; simp; omega
      · rcases List.mem_append.1 hx with hx | hx
        · exact h.small x hx
        · simp at hx; subst hx; exact chk_small (by simpa using hc)
theorem dealL_small {s : BS} (h : ∀ t ∈ s.pend, t.small) : ∀ x ∈ s.dealL, x.2.small := by
  intro x hx
  unfold BS.dealL at hx
  split at hx
  · rename_i y p hp
    split at hx
    · simp at hx; subst hx; exact h y (by rw [hp]; simp)
    · cases hx
  · cases hx
theorem askL_small {s : BS} (h : s.wf) : ∀ x ∈ s.askL, x.2.small := by
  unfold BS.askL
  split
  · simp
  · exact dealL_small h.small
theorem putL_small {s : BS} (h : s.wf) (t : T) : ∀ x ∈ s.putL t, x.2.small := by
  unfold BS.putL
  split
  · simp
  · rename_i hc
    split
    · simp
    · refine dealL_small fun x hx => ?_
      rcases List.mem_append.1 hx with hx | hx
      · exact h.small x hx
      · simp at hx; subst hx; exact chk_small (by simpa using hc)

theorem same_refl_aux : (∀ t : T, same t t = true) ∧ (∀ l : List T, sameL l l = true) := by
  have h : ∀ n : Nat, (∀ t : T, SizeOf.sizeOf t < n → same t t = true) ∧ (∀ l : List T, SizeOf.sizeOf l < n → sameL l l = true) := by
    intro n
    induction n with
    | zero => exact ⟨fun t h => by omega, fun l h => by omega⟩
    | succ n ih =>
      refine ⟨fun t h => ?_, fun l h => ?_⟩
      · rw [same_eq]
        have hb : bseq t.s t.s = true := by simp [bseq]
        rw [hb, ih.2 t.l (by have := t.sizeOf_l; omega)]
        simp
      · cases l with
        | nil => rfl
        | cons x l =>
          simp at h
          rw [sameL, ih.1 x (by omega), ih.2 l (by omega)]; rfl
  exact ⟨fun t => (h (SizeOf.sizeOf t + 1)).1 t (Nat.lt_succ_self _), fun l => (h (SizeOf.sizeOf l + 1)).2 l (Nat.lt_succ_self _)⟩

def C22 : Contract := fun args σ K => ∃ (b : Nat) (r : Option Nat) (s : BS), args = [.ptr b 0] ∧ (BufAt σ b r s ∧ s.wf) ∧
  ∀ (r' : Option Nat) (σ' : State), BufAt σ' b r' s.ask.2 ∧ Keeps σ σ' b r r' → K (.tuple [.int .i64 s.askN, dealsV s.askL, .int .i64 s.askE]) σ'
def C24 : Contract := fun args σ K => ∃ (b : Nat) (r : Option Nat) (s : BS) (t : T), args = [.ptr b 0, .agg (tc t)] ∧ (BufAt σ b r s ∧ s.wf) ∧
  ∀ (r' : Option Nat) (σ' : State), BufAt σ' b r' (s.put t).2 ∧ Keeps σ σ' b r r' → K (.tuple [.int .i64 (s.putN t), dealsV (s.putL t), .int .i64 (s.putE t)]) σ'

section
variable {B : Nat} {w0 : World} {G : Nat → AV} (hG : ∀ i, NoId (G i))
include hG
theorem c22_ok : ContractOk (EV B w0 G) 22 C22 := by
  rintro args σ Q ⟨b, r, s, rfl, ⟨hb, hs⟩, hQ⟩
  refine buf_frame (P := fun v s' => (v, s') = s.ask) hG (by simp) hb (fun hp => ask_a hs hp) (fun pre fr h1 h2 h3 h4 => ask_b hs h1 h2 h3 h4) fun v s' r' σ' hP h1 h2 => ?_
  have e1 : v = s.ask.1 := congrArg Prod.fst hP
  have e2 : s' = s.ask.2 := congrArg Prod.snd hP
  subst e1; subst e2
  rw [BS.ask_fst]
  exact hQ r' σ' ⟨h1, h2⟩
theorem c24_ok : ContractOk (EV B w0 G) 24 C24 := by
  rintro args σ Q ⟨b, r, s, t, rfl, ⟨hb, hs⟩, hQ⟩
  refine buf_frame (P := fun v s' => (v, s') = s.put t) hG (fun x hx => by simp only [List.mem_cons, List.not_mem_nil, or_false] at hx; subst hx; exact agg_tc_noId t) hb (fun hp => put_a hG hs hp) (fun pre fr h1 h2 h3 h4 => put_b hG hs h1 h2 h3 h4) fun v s' r' σ' hP h1 h2 => ?_
  have e1 : v = (s.put t).1 := congrArg Prod.fst hP
  have e2 : s' = (s.put t).2 := congrArg Prod.snd hP
  subst e1; subst e2
  rw [BS.put_fst]
  exact hQ r' σ' ⟨h1, h2⟩
end
end Go.V
