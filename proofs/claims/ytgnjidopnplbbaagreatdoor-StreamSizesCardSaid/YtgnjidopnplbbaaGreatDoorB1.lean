/- Buffers: what a buffer is, in a state of objects; a method shown on its own objects holds beside all others. -/
import Derived.Test.YtgnjidopnplbbaaGreatDoorP4
set_option maxRecDepth 1000000
set_option linter.unusedVariables false
set_option linter.unusedSimpArgs false
set_option linter.unusedSectionVars false
namespace Go.V
open Go Go.Proofs

/-- What a buffer is: its room, how many items came and were dealt, how many requests came, and the items that lie. -/
structure BS where
  room : Int
  came : Nat
  deal : Nat
  asked : Nat
  pend : List T

structure BS.wf (s : BS) : Prop where
  came : s.came ≤ 20000
  asked : s.asked ≤ 20000
  deal : s.deal ≤ s.asked
  pend : s.deal + s.pend.length = s.came
  small : ∀ t ∈ s.pend, t.small

def bufO (s : BS) (q : AV) (fr : Nat) : AObj := .cells [.int .i64 s.room, .int .i64 s.came, .int .i64 s.deal, .int .i64 s.asked, q, .int .i64 fr] 129 6 false
def rowO (pre : List AV) (pend : List T) : AObj := .cells (pre ++ flat (tcellL pend)) 37 4 true

/-- The queue of a buffer: where its row lies (none: there is no row). -/
inductive QAt (σ : State) (b : Nat) (s : BS) : Option Nat → AV → Nat → Prop where
  | nil (h : s.pend = []) : QAt σ b s none .nilslice 0
  | row (r : Nat) (pre : List AV) (fr : Nat) (hb : r ≠ b) (hr : r < σ.next) (ho : σ.objs r = rowO pre s.pend) (hp : pre.length = fr * 4) (hl : fr + s.pend.length ≤ s.came)
      (hn : ∀ x ∈ pre, NoId x) (h1 : pre.all AV.one = true) : QAt σ b s (some r) (.rslice r 0 (fr + s.pend.length)) fr

/-- A buffer lies in a state. -/
def BufAt (σ : State) (b : Nat) (r : Option Nat) (s : BS) : Prop := b < σ.next ∧ ∃ q fr, σ.objs b = bufO s q fr ∧ QAt σ b s r q fr

theorem flat_one (l : List T) : (flat (tcellL l)).all AV.one = true := by
  induction l with
  | nil => rfl
  | cons t l ih =>
    rw [tcellL, flat_cons, List.all_append, ih, tcell_eq]
    rfl
theorem rowO_noId {pre : List AV} {pend : List T} (h : ∀ x ∈ pre, NoId x) : ∀ x ∈ pre ++ flat (tcellL pend), NoId x := fun x hx => by
  rcases List.mem_append.1 hx with hx | hx
  · exact h x hx
  · exact (tcellL_noId pend).2 x hx

/-- What a method leaves of other objects. -/
structure Keeps (σ σ' : State) (b : Nat) (r r' : Option Nat) : Prop where
  next : σ.next ≤ σ'.next
  objs : ∀ j, j < σ.next → j ≠ b → some j ≠ r → σ'.objs j = σ.untok.objs j
  row : ∀ j, r' = some j → r = some j ∨ σ.next ≤ j

/-- On its own objects alone. -/
def aloneN (s : BS) : State := lst [bufO s .nilslice 0] 1
def aloneR (s : BS) (pre : List AV) (fr : Nat) : State := lst [bufO s (.rslice 1 0 (fr + s.pend.length)) fr, rowO pre s.pend] 2

theorem buf_frame {E : Env} {f b : Nat} {r : Option Nat} {rest : List AV} {σ : State} {s : BS} {P : AV → BS → Prop} {Q : AV → State → Prop} (hG : ∀ i, NoId (E.G i)) (hrest : ∀ x ∈ rest, NoId x) (hb : BufAt σ b r s)
    (hA : s.pend = [] → ACalls E f (.ptr 0 0 :: rest) (aloneN s) (fun v σ' => ∃ s' r', P v s' ∧ NoId v ∧ BufAt σ' 0 r' s'))
    (hB : ∀ pre fr, pre.length = fr * 4 → fr + s.pend.length ≤ s.came → (∀ x ∈ pre, NoId x) → pre.all AV.one = true → ACalls E f (.ptr 0 0 :: rest) (aloneR s pre fr) (fun v σ' => ∃ s' r', P v s' ∧ NoId v ∧ BufAt σ' 0 r' s'))
    (hQ : ∀ v s' r' σ', P v s' → BufAt σ' b r' s' → Keeps σ σ' b r r' → Q v σ') : ACalls E f (.ptr b 0 :: rest) σ Q := by
  obtain ⟨hbn, q, fr, ho, hq⟩ := hb
  -- the objects behind, beside all others
  have fin : ∀ (k : Nat) (ρ : Nat → Nat), 0 < k → ρ 0 = b → (∀ i, i < k → i ≠ 0 → some (ρ i) = r) → (∀ j, some j = r → ∃ i, i < k ∧ i ≠ 0 ∧ ρ i = j) → (∀ i, i < k → ρ i < σ.next) → (∀ i j, i < k → j < k → ρ i = ρ j → i = j) →
      ∀ v σs', (∃ s' r', P v s' ∧ NoId v ∧ BufAt σs' 0 r' s') → ∃ v' σ', RenP (fun i j => j = outNo k ρ σ.next i) v v' ∧ Beside k ρ σ σs' σ' ∧ Q v' σ' := by
    intro k ρ hk hρ0 hρ1 hρ2 hρn hinj v σs' ⟨s', r', hP, hv, hbs⟩
    obtain ⟨hbn', q', fr', ho', hq'⟩ := hbs
    have o0 : outNo k ρ σ.next 0 = b := by unfold outNo; rw [if_pos hk, hρ0]
    have oinj : ∀ i j, outNo k ρ σ.next i = outNo k ρ σ.next j → i = j := by
      intro i j h
      unfold outNo at h
      split at h
      · rename_i hi
        split at h
        · rename_i hj; exact hinj i j hi hj h
        · have := hρn i hi; omega
      · split at h
        · rename_i hj; have := hρn j hj; omega
        · omega
    have olt : ∀ i, i < σs'.next → outNo k ρ σ.next i < σ.next + (σs'.next - k) := by
      intro i hi
      unfold outNo
      split
      · rename_i h; have := hρn i h; omega
      · omega
    -- the new state
    have make : ∀ (q2 : AV) (r2 : Option Nat) (row : AObj), (∀ j, r2 = some j → j ≠ b ∧ (some j = r ∨ σ.next ≤ j)) →
        ∃ σ' : State, σ'.next = σ.next + (σs'.next - k) ∧ σ'.objs b = bufO s' q2 fr' ∧ (∀ j, r2 = some j → σ'.objs j = row) ∧ (∀ j, j ≠ b → r2 ≠ some j → some j = r → σ'.objs j = .dead) ∧
          (∀ j, j ≠ b → r2 ≠ some j → some j ≠ r → j < σ.next → σ'.objs j = σ.untok.objs j) ∧ (∀ j, j ≠ b → r2 ≠ some j → some j ≠ r → σ.next ≤ j → σ'.objs j = .dead) := by
      intro q2 r2 row hr2
      refine ⟨⟨fun j => if j = b then bufO s' q2 fr' else if r2 = some j then row else if some j = r then .dead else if j < σ.next then σ.untok.objs j else .dead, σ.next + (σs'.next - k)⟩, rfl, if_pos rfl, fun j hj => ?_, fun j h1 h2 h3 => ?_, fun j h1 h2 h3 h4 => ?_, fun j h1 h2 h3 h4 => ?_⟩
      · dsimp only; rw [if_neg (hr2 j hj).1, if_pos hj]
      · dsimp only; rw [if_neg h1, if_neg h2, if_pos h3]
      · dsimp only; rw [if_neg h1, if_neg h2, if_neg h3, if_pos h4]
      · dsimp only; rw [if_neg h1, if_neg h2, if_neg h3, if_neg (by omega)]
    have img : ∀ i, i ≠ 0 → outNo k ρ σ.next i ≠ b ∧ (some (outNo k ρ σ.next i) = r ∨ σ.next ≤ outNo k ρ σ.next i) := by
      intro i hi
      refine ⟨fun e => hi (oinj i 0 (by rw [e, o0])), ?_⟩
      unfold outNo
      split
      · rename_i h; exact .inl (hρ1 i h hi)
      · exact .inr (by omega)
    cases hq' with
    | nil hp =>
      obtain ⟨σ', h1, h2, h3, h4, h5, h6⟩ := make .nilslice none .dead (fun j h => by cases h)
      refine ⟨v, σ', .noId hv, ⟨h1, fun i hi => ?_, fun j hj hne => ?_, fun j hj => ?_⟩, hQ v s' none σ' hP ⟨by omega, _, _, h2, .nil hp⟩ ⟨by omega, fun j hj hjb hjr => h5 j hjb (by simp) hjr hj, fun j h => by cases h⟩⟩
      · by_cases hi0 : i = 0
        · subst hi0
          rw [o0, h2, ho']
          refine .inr ⟨by simp [bufO], .cells (RenL.noId fun x hx => ?_) (by rfl)⟩
          simp only [List.mem_cons, List.not_mem_nil, or_false] at hx
          rcases hx with rfl | rfl | rfl | rfl | rfl | rfl
          · exact .int _ _
          · exact .int _ _
          · exact .int _ _
          · exact .int _ _
          · exact .nilslice
          · exact .int _ _
        · obtain ⟨k1, k2⟩ := img i hi0
          by_cases e : some (outNo k ρ σ.next i) = r
          · exact .inl (h4 _ k1 (by simp) e)
          · exact .inl (h6 _ k1 (by simp) e (k2.resolve_left e))
      · refine .inl (h5 j (by rw [← hρ0]; exact hne 0 hk) (by simp) (fun e => ?_) hj)
        obtain ⟨i, hi, _, hij⟩ := hρ2 j e
        exact hne i hi hij.symm
      · by_cases hjb : j = b
        · omega
        · by_cases e : some j = r
          · exact h4 j hjb (by simp) e
          · exact h6 j hjb (by simp) e (by omega)
    | row r0 pre fr0 hb0 hr0 hro hp hl hn hone =>
      obtain ⟨k1, k2⟩ := img r0 hb0
      obtain ⟨σ', h1, h2, h3, h4, h5, h6⟩ := make (.rslice (outNo k ρ σ.next r0) 0 (fr' + s'.pend.length)) (some (outNo k ρ σ.next r0)) (rowO pre s'.pend) (fun j h => by cases h; exact ⟨k1, k2⟩)
      have hrow := h3 _ rfl
      refine ⟨v, σ', .noId hv, ⟨h1, fun i hi => ?_, fun j hj hne => ?_, fun j hj => ?_⟩, hQ v s' (some (outNo k ρ σ.next r0)) σ' hP ⟨by omega, _, _, h2, .row _ pre fr' k1 (by rw [h1]; exact olt r0 hr0) hrow hp hl hn hone⟩ ⟨by omega, fun j hj hjb hjr => h5 j hjb (fun e => ?_) hjr hj, fun j h => by cases h; rcases k2 with k2 | k2; exact .inl k2.symm; exact .inr k2⟩⟩
      · by_cases hi0 : i = 0
        · subst hi0
          rw [o0, h2, ho']
          refine .inr ⟨by simp [bufO], .cells (.cons (.noId (.int _ _)) (.cons (.noId (.int _ _)) (.cons (.noId (.int _ _)) (.cons (.noId (.int _ _)) (.cons (RenP.rslice (R := fun i j => j = outNo k ρ σ.next i) (i := r0) (j := outNo k ρ σ.next r0) rfl 0 _) (.cons (.noId (.int _ _)) .nil)))))) (by rfl)⟩
        · by_cases hir : i = r0
          · subst hir
            rw [hrow, hro]
            refine .inr ⟨by simp [rowO], .cells (RenL.noId (rowO_noId hn)) ?_⟩
            rw [List.all_append, hone, flat_one]; rfl
          · obtain ⟨m1, m2⟩ := img i hi0
            have hne : some (outNo k ρ σ.next r0) ≠ some (outNo k ρ σ.next i) := fun e => hir (oinj i r0 (Option.some.inj e).symm)
            by_cases e : some (outNo k ρ σ.next i) = r
            · exact .inl (h4 _ m1 hne e)
            · exact .inl (h6 _ m1 hne e (m2.resolve_left e))
      · have hjb : j ≠ b := by rw [← hρ0]; exact hne 0 hk
        have hjr : some j ≠ r := fun e => by
          obtain ⟨i, hi, _, hij⟩ := hρ2 j e
          exact hne i hi hij.symm
        refine .inl (h5 j hjb (fun e => ?_) hjr hj)
        have e' := Option.some.inj e
        rcases k2 with k2 | k2
        · exact hjr (by rw [← e']; exact k2)
        · omega
      · by_cases hjb : j = b
        · omega
        · have hne : some (outNo k ρ σ.next r0) ≠ some j := fun e => by
            have := olt r0 hr0
            have := Option.some.inj e
            omega
          by_cases e : some j = r
          · exact h4 j hjb hne e
          · exact h6 j hjb hne e (by omega)
      · have e' := Option.some.inj e
        rcases k2 with k2 | k2
        · exact hjr (by rw [← e']; exact k2)
        · omega
  cases hq with
  | nil hp =>
    refine ACalls.frame (k := 1) (ρ := fun _ => b) hG ⟨rfl, fun i j hi hj _ => by omega, fun i hi => ?_, fun i hi => ?_, fun i hi => ?_⟩ (.cons (RenP.ptr ⟨by omega, rfl⟩ 0) (.noId hrest)) (hA hp)
      (fin 1 (fun _ => b) (by omega) rfl (fun i h1 h2 => by omega) (fun j h => by cases h) (fun i _ => hbn) (fun i j hi hj _ => by omega))
    · have : i = 0 := by omega
      subst this
      exact ⟨by simp [aloneN, lst, bufO], by rw [ho]; simp [bufO]⟩
    · show ([bufO s .nilslice 0] : List AObj).getD i .dead = .dead
      rw [List.getD, List.getElem?_eq_none (by simpa using hi)]; rfl
    · have : i = 0 := by omega
      subst this
      rw [ho]
      refine .cells (RenL.noId fun x hx => ?_) (by rfl)
      simp only [List.mem_cons, List.not_mem_nil, or_false] at hx
      rcases hx with rfl | rfl | rfl | rfl | rfl | rfl
      · exact .int _ _
      · exact .int _ _
      · exact .int _ _
      · exact .int _ _
      · exact .nilslice
      · exact .int _ _
  | row r0 pre fr0 hb0 hr0 hro hp hl hn hone =>
    have h01 : ∀ i : Nat, i < 2 → i = 0 ∨ i = 1 := fun i hi => by omega
    refine ACalls.frame (k := 2) (ρ := fun i => if i = 0 then b else r0) hG ⟨rfl, fun i j hi hj h => ?_, fun i hi => ?_, fun i hi => ?_, fun i hi => ?_⟩ (.cons (RenP.ptr ⟨by omega, by simp⟩ 0) (.noId hrest)) (hB pre fr hp hl hn hone)
      (fin 2 (fun i => if i = 0 then b else r0) (by omega) (by simp) (fun i h1 h2 => by simp [h2]) (fun j h => by cases h; exact ⟨1, by omega, by omega, by simp⟩) (fun i _ => by split <;> assumption) (fun i j hi hj h => ?_))
    · rcases h01 i hi with rfl | rfl <;> rcases h01 j hj with rfl | rfl <;> simp at h ⊢ <;> first | exact absurd h.symm hb0 | exact absurd h hb0
    · rcases h01 i hi with rfl | rfl
      · exact ⟨by simp [aloneR, lst, bufO], by simp [ho, bufO]⟩
      · exact ⟨by simp [aloneR, lst, rowO], by simp [hro, rowO]⟩
    · show ([bufO s (.rslice 1 0 (fr + s.pend.length)) fr, rowO pre s.pend] : List AObj).getD i .dead = .dead
      rw [List.getD, List.getElem?_eq_none (by simpa using hi)]; rfl
    · rcases h01 i hi with rfl | rfl
      · simp only [if_true]
        rw [ho]
        exact .cells (.cons (.noId (.int _ _)) (.cons (.noId (.int _ _)) (.cons (.noId (.int _ _)) (.cons (.noId (.int _ _)) (.cons (RenP.rslice ⟨by omega, by simp⟩ 0 _) (.cons (.noId (.int _ _)) .nil)))))) (by rfl)
      · simp only [Nat.one_ne_zero, if_false]
        rw [hro]
        refine .cells (RenL.noId (rowO_noId hn)) ?_
        rw [List.all_append, hone, flat_one]; rfl
    · rcases h01 i hi with rfl | rfl <;> rcases h01 j hj with rfl | rfl <;> simp at h ⊢ <;> first | exact absurd h.symm hb0 | exact absurd h hb0
end Go.V
