/- Buffers: the contracts of Ask and Put, in any state. -/
import Derived.Test.YtgnjidopnplbbaaGreatDoorB3
set_option maxRecDepth 1000000
set_option linter.unusedVariables false
set_option linter.unusedSimpArgs false
set_option linter.unusedSectionVars false
namespace Go.V
open Go Go.Proofs

/-- Deliveries, as a value. -/
def dealsV : List (Nat × T) → AV
  | [] => .nilslice
  | (k, t) :: l => .slice 6 (dealV k t :: l.map fun x => dealV x.1 x.2) .full

/-- What is dealt: the deliveries, and the buffer behind. -/
def BS.dealL (s : BS) : List (Nat × T) :=
  match s.pend with
  | x :: _ => if s.deal < s.asked then [(s.deal, x)] else []
  | [] => []
theorem BS.dealt_fst (s : BS) : s.dealt.1 = dealsV s.dealL := by
  unfold BS.dealt BS.dealL
  cases s.pend with
  | nil => rfl
  | cons x p =>
    dsimp only
    split <;> rfl

/-- A request: its number, the deliveries, the error. -/
def BS.askN (s : BS) : Nat := if 20000 ≤ s.asked then 0 else s.asked
def BS.askL (s : BS) : List (Nat × T) := if 20000 ≤ s.asked then [] else BS.dealL { s with asked := s.asked + 1 }
def BS.askE (s : BS) : Int := if 20000 ≤ s.asked then 91 else 0
theorem BS.ask_fst (s : BS) : s.ask.1 = .tuple [.int .i64 s.askN, dealsV s.askL, .int .i64 s.askE] := by
  unfold BS.ask BS.askN BS.askL BS.askE
  split
  · rfl
  · rw [BS.dealt_fst]; rfl
/-- An item: its number, the deliveries, the error. -/
def BS.putN (s : BS) (t : T) : Nat := if chkT t ≠ 0 then 0 else if 20000 ≤ s.came then 0 else s.came
def BS.putL (s : BS) (t : T) : List (Nat × T) := if chkT t ≠ 0 then [] else if 20000 ≤ s.came then [] else BS.dealL { s with came := s.came + 1, pend := s.pend ++ [t] }
def BS.putE (s : BS) (t : T) : Int := if chkT t ≠ 0 then 3 else if 20000 ≤ s.came then 91 else 0
theorem BS.put_fst (s : BS) (t : T) : (s.put t).1 = .tuple [.int .i64 (s.putN t), dealsV (s.putL t), .int .i64 (s.putE t)] := by
  unfold BS.put BS.putN BS.putL BS.putE
  split
  · rfl
  · split
    · rfl
    · rw [BS.dealt_fst]; rfl

theorem dealt_wf {s : BS} (h : s.wf) : s.dealt.2.wf := by
  unfold BS.dealt
  split
  · rename_i x p hp
    split
    · rename_i hd
      have h1 := h.pend
      rw [hp] at h1
      exact ⟨h.came, h.asked, hd, by simp at h1 ⊢; omega, fun t ht => h.small t (by rw [hp]; simp [ht])⟩
    · exact h
  · exact h
theorem ask_wf {s : BS} (h : s.wf) : s.ask.2.wf := by
  unfold BS.ask
  split
  · exact h
  · rename_i hn
    exact dealt_wf ⟨h.came, show s.asked + 1 ≤ 20000 by omega, Nat.le_succ_of_le h.deal, h.pend, h.small⟩
theorem put_wf {s : BS} (h : s.wf) (t : T) : (s.put t).2.wf := by
  unfold BS.put
  split
  · exact h
  · rename_i hc
    split
    · exact h
    · rename_i hn
      refine dealt_wf ⟨show s.came + 1 ≤ 20000 by omega, h.asked, h.deal, ?_, fun x hx => ?_⟩
      · have := h.pend; simp; omega
      · rcases List.mem_append.1 hx with hx | hx
        · exact h.small x hx
        · simp at hx; subst hx; exact chk_small (by simpa using hc)
theorem dealL_small {s : BS} (h : ∀ t ∈ s.pend, t.small) : ∀ x ∈ s.dealL, x.2.small := by
  intro x hx
  unfold BS.dealL at hx
  split at hx
  · rename_i y p hp
    split at hx
    · simp at hx; subst hx; exact h y (by rw [hp]; simp)
    · cases hx
  · cases hx
theorem askL_small {s : BS} (h : s.wf) : ∀ x ∈ s.askL, x.2.small := by
  unfold BS.askL
  split
  · simp
  · exact dealL_small h.small
theorem putL_small {s : BS} (h : s.wf) (t : T) : ∀ x ∈ s.putL t, x.2.small := by
  unfold BS.putL
  split
  · simp
  · rename_i hc
    split
    · simp
    · refine dealL_small fun x hx => ?_
      rcases List.mem_append.1 hx with hx | hx
      · exact h.small x hx
      · simp at hx; subst hx; exact chk_small (by simpa using hc)

theorem same_refl_aux : (∀ t : T, same t t = true) ∧ (∀ l : List T, sameL l l = true) := by
  have h : ∀ n : Nat, (∀ t : T, SizeOf.sizeOf t < n → same t t = true) ∧ (∀ l : List T, SizeOf.sizeOf l < n → sameL l l = true) := by
    intro n
    induction n with
    | zero => exact ⟨fun t h => by omega, fun l h => by omega⟩
    | succ n ih =>
      refine ⟨fun t h => ?_, fun l h => ?_⟩
      · rw [same_eq]
        have hb : bseq t.s t.s = true := by simp [bseq]
        rw [hb, ih.2 t.l (by have := t.sizeOf_l; omega)]
        simp
      · cases l with
        | nil => rfl
        | cons x l =>
          simp at h
          rw [sameL, ih.1 x (by omega), ih.2 l (by omega)]; rfl
  exact ⟨fun t => (h (SizeOf.sizeOf t + 1)).1 t (Nat.lt_succ_self _), fun l => (h (SizeOf.sizeOf l + 1)).2 l (Nat.lt_succ_self _)⟩

def C22 : Contract := fun args σ K => ∃ (b : Nat) (r : Option Nat) (s : BS), args = [.ptr b 0] ∧ (BufAt σ b r s ∧ s.wf) ∧
  ∀ (r' : Option Nat) (σ' : State), BufAt σ' b r' s.ask.2 ∧ Keeps σ σ' b r r' → K (.tuple [.int .i64 s.askN, dealsV s.askL, .int .i64 s.askE]) σ'
def C24 : Contract := fun args σ K => ∃ (b : Nat) (r : Option Nat) (s : BS) (t : T), args = [.ptr b 0, .agg (tc t)] ∧ (BufAt σ b r s ∧ s.wf) ∧
  ∀ (r' : Option Nat) (σ' : State), BufAt σ' b r' (s.put t).2 ∧ Keeps σ σ' b r r' → K (.tuple [.int .i64 (s.putN t), dealsV (s.putL t), .int .i64 (s.putE t)]) σ'

section
variable {B : Nat} {w0 : World} {G : Nat → AV} (hG : ∀ i, NoId (G i))
include hG
theorem c22_ok : ContractOk (EV B w0 G) 22 C22 := by
  rintro args σ Q ⟨b, r, s, rfl, ⟨hb, hs⟩, hQ⟩
  refine buf_frame (P := fun v s' => (v, s') = s.ask) hG (by simp) hb (fun hp => ask_a hs hp) (fun pre fr h1 h2 h3 h4 => ask_b hs h1 h2 h3 h4) fun v s' r' σ' hP h1 h2 => ?_
  have e1 : v = s.ask.1 := congrArg Prod.fst hP
  have e2 : s' = s.ask.2 := congrArg Prod.snd hP
  subst e1; subst e2
  rw [BS.ask_fst]
  exact hQ r' σ' ⟨h1, h2⟩
theorem c24_ok : ContractOk (EV B w0 G) 24 C24 := by
  rintro args σ Q ⟨b, r, s, t, rfl, ⟨hb, hs⟩, hQ⟩
  refine buf_frame (P := fun v s' => (v, s') = s.put t) hG (fun x hx => by simp only [List.mem_cons, List.not_mem_nil, or_false] at hx; subst hx; exact agg_tc_noId t) hb (fun hp => put_a hG hs hp) (fun pre fr h1 h2 h3 h4 => put_b hG hs h1 h2 h3 h4) fun v s' r' σ' hP h1 h2 => ?_
  have e1 : v = (s.put t).1 := congrArg Prod.fst hP
  have e2 : s' = (s.put t).2 := congrArg Prod.snd hP
  subst e1; subst e2
  rw [BS.put_fst]
  exact hQ r' σ' ⟨h1, h2⟩
end
end Go.V
