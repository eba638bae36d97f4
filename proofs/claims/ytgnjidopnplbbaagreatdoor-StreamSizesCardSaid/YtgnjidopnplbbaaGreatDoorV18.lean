/- The V-model, part 18: the statement that loops over a function. -/
import Derived.Test.YtgnjidopnplbbaaGreatDoorV17
set_option linter.unusedSimpArgs false
set_option linter.unusedVariables false
namespace Go.V
open Go.RowKit

section
variable {E : Env} {rd : Option Nat} {n : Nat} {R0 : Nat → Option Obj} {loc : Nat → Option Nat} {g : Ghost} {σ : State} {w : World} {a : AAct} {act : Act}

/-- What has to hold when the function that was looped over has returned. -/
def rangeQ (id : Nat) (Q : Post) (a : AAct) (_ : AV) (σ : State) : Prop :=
  match loopAt σ id with
  | none => False
  | some l => l.st ≠ .busy ∧ (match l.pend with
    | none => Q .normal a (σ.set id .dead)
    | some .ret => Q .ret a (σ.set id .dead)
    | some (.exit k) => Q (.exit k) a (σ.set id .dead)
    | _ => False)

def roundOk (σ : State) : Option Nat → Prop
  | none => True
  | some id => ∃ l, loopAt σ id = some l

theorem endLoop_run {P : Program} {b : Nat} {r : Loop} (h : w.heap[b]? = some (.loop r)) (hb : r.state ≠ .busy) :
    (Instr.endLoop b).run P w = .ok r.pending { w with heap := w.heap.setIfInBounds b (.loop { r with state := .exhausted }) } := by
  unfold Instr.endLoop
  rw [Sem.run_bind, getLoop_run h, Result.andThen_ok]
  have : (r.state == LoopState.busy) = false := by simpa using hb
  simp only [this, Bool.false_eq_true, if_false, Sem.run_bind, Sem.run_pure, Result.andThen_ok]
  rw [setLoop_run h]
  rfl

theorem awp_rangeFunc {f : Operand} {ps : Array Tmp} {assign body : Code} {Q : Post} {fi own : Nat} {first cap : List AV}
    (hf : (tval E.G a f).low = .func (.func fi) first cap) (hb : hasBody E.P fi = true) (hrd : roundOk σ rd)
    (h : ACalls E fi (first ++ [.yield σ.next] ++ cap) (σ.new (.loop ⟨n, a.low, ps.toList, assign, body, .ready, none, own⟩)) (rangeQ σ.next Q a)) :
    AWp E rd n (.rangeFunc f ps assign body) Q a σ := by
  refine ⟨fun g w act loc R0 F hF hG hS hT => wpIn_rangeFunc fun fn _ => ?_⟩
  have hv := (tval_ok hG hT f).low
  rw [hf] at hv
  obtain ⟨fs, cs, he, hfs, hcs⟩ := hv.func_inv
  -- the record is laid
  have lay : ∃ (l : Nat) (mark : List Deferred) (w₁ : World) (g1 : Ghost) (i : Info), (Instr.enterLoop fn act.tmps ps assign body F.round).run E.P w = .ok (l, mark) w₁ ∧ g.LeX g1 ∧ g1.info σ.next = some i ∧ i.blk = l ∧
      Sim E.B E.w0 g1 (σ.new (.loop ⟨n, a.low, ps.toList, assign, body, .ready, none, own⟩)) w₁ ∧ Fr n R0 E.B g1 loc a { act with defers := mark ++ act.defers } := by
    have mk : ∀ (g0 : Ghost) (w0 : World) (dn : Nat) (mark : List Deferred), g.LeX g0 → Sim E.B E.w0 g0 σ w0 → Fr n R0 E.B g0 loc a { act with defers := mark ++ act.defers } →
        ∃ g1 i, g.LeX g1 ∧ g1.info σ.next = some i ∧ i.blk = w0.heap.size ∧ Sim E.B E.w0 g1 (σ.new (.loop ⟨n, a.low, ps.toList, assign, body, .ready, none, own⟩)) (w0.alloc (.loop { state := .ready, pending := none, fn, tmps := act.tmps, params := ps, assign, body, defers := dn })) ∧
          Fr n R0 E.B g1 loc a { act with defers := mark ++ act.defers } := by
      intro g0 w0 dn mark hle hS0 hT0
      have hle1 : g0.Le (g0.add σ.next ⟨w0.heap.size, 0, 0⟩) := Ghost.le_add (hS0.next _ (Nat.le_refl _)).1 _
      obtain ⟨h1, h2⟩ := hS0.new (.loop ⟨n, a.low, ps.toList, assign, body, .ready, none, own⟩) (.loop { state := .ready, pending := none, fn, tmps := act.tmps, params := ps, assign, body, defers := dn }) 0 0
        ⟨⟨w0.heap.size, 0, 0⟩, _, by simp, hS0.size, heap_new w0 _, hT0.size, fun t => ((hT0.tmp t).low).mono hle1, rfl, rfl, rfl, rfl, rfl⟩
      exact ⟨_, ⟨w0.heap.size, 0, 0⟩, hle.trans h1.x, by simp, rfl, h2, hT0.mono h1⟩
    cases rd with
    | none =>
      cases hF
      have hx := Ghost.leX_setR g w.heap.size (.deferred (some []))
      have hlt : ∀ b x, g.R b = some x → b < w.heap.size := fun b x hb => (Array.getElem?_eq_some_iff.1 (hS.res b x hb)).1
      have hne : ∀ b x, g.R b = some x → (g.setR w.heap.size (.deferred (some []))).R b = some x := fun b x hb => by
        show (if b = w.heap.size then _ else g.R b) = _
        rw [if_neg (by have := hlt b x hb; omega)]; exact hb
      have hT0 : Fr n R0 E.B (g.setR w.heap.size (.deferred (some []))) loc a { act with defers := { target := .collected w.heap.size, args := #[] } :: act.defers } := by
        refine ⟨hT.size, ⟨⟨w.heap.size, rfl, hS.size, ?_, by simp [Ghost.setR], ?_⟩, hT.marks.turn fun r hr _ => hne r _ hr⟩, fun t => (hT.tmp t).mono hx, fun k b hk => ?_, hT.inj, fun b o hb => hne b o (hT.sub b o hb)⟩
        · cases hv : R0 w.heap.size with
          | none => rfl
          | some x => have := hT.sub _ _ hv; rw [hS.R_new] at this; cases this
        · intro d' hd' e
          have : ∀ (ds : List Deferred), Marks R0 E.B g ds → ∀ d ∈ ds, d.target ≠ .collected w.heap.size := by
            intro ds
            induction ds with
            | nil => intro _ d hd; cases hd
            | cons x ds ih =>
              intro hm d hd
              obtain ⟨⟨r, h1, _, _, h4, _⟩, h6⟩ := hm
              rcases List.mem_cons.1 hd with rfl | hd
              · rw [h1]; intro e; cases e; have := hlt _ _ h4; omega
              · exact ih h6 d hd
          exact this _ hT.marks d' hd' e
        · obtain ⟨k1, k2, c, e, k3, k4, k5⟩ := hT.cell k b hk
          exact ⟨k1, k2, c, e, hne b _ k3, k4.monoX hx, k5⟩
      obtain ⟨g1, i, h1, h2, h3, h4, h5⟩ := mk _ (w.alloc (.deferred (some []))) w.heap.size [{ target := .collected w.heap.size, args := #[] }] hx (hS.newLocal _) hT0
      refine ⟨(w.alloc (.deferred (some []))).heap.size, [{ target := .collected w.heap.size, args := #[] }], _, g1, i, ?_, h1, h2, h3, h4, h5⟩
      rfl
    | some id =>
      obtain ⟨i0, hi0, rfl⟩ := hF
      obtain ⟨l0, hl0⟩ := hrd
      have hob := hS.objs id
      rw [loopAt_some hl0] at hob
      obtain ⟨i', r0, k1, k2, k3, _⟩ := hob
      rw [hi0] at k1; cases k1
      obtain ⟨g1, i, h1, h2, h3, h4, h5⟩ := mk g w r0.defers [] (.refl g) hS hT
      refine ⟨w.heap.size, [], _, g1, i, ?_, h1, h2, h3, h4, h5⟩
      show (Instr.enterLoop fn act.tmps ps assign body (some i0.blk)).run E.P w = _
      unfold Instr.enterLoop
      simp only [Sem.run_bind, getLoop_run k3, Result.andThen_ok, Sem.run_pure]
      rfl
  obtain ⟨l, mark, w₁, g1, i, h1, h2, h3, h4, h5, h6⟩ := lay
  refine ⟨l, mark, w₁, { target := .fn (.func fi) cs, args := fs ++ #[.func (.yield l) #[] #[]] }, w₁, fi, fs ++ #[.func (.yield l) #[] #[]] ++ cs, w₁, h1, ?_, fun f' _ => hF.fn f', ?_, fun h => (by rw [hF.depth] at h; cases h), ?_⟩
  · simp only [resolve, rangeCall, he, Deferred.ofValue, Sem.run_bind, Sem.run_pure, Result.andThen_ok]
    have hm : Array.map act.eval #[Operand.const (Value.func (Fn.yield l) #[] #[])] = #[Value.func (Fn.yield l) #[] #[]] := by simp [Act.eval]
    rw [hm]
  · simp only [invoke]
    exact hasBody_run hb _ w₁
  · have hargs : RVL g1 (first ++ [.yield σ.next] ++ cap) (fs ++ #[Value.func (.yield l) #[] #[]] ++ cs).toList := by
      simp only [Array.toList_append]
      have hy : RV g1 (.yield σ.next) (Value.func (.yield l) #[] #[]) := by rw [← h4]; exact .yield _ i h3
      exact ((RVL.monoX h2 hfs).append (RVL.cons hy (.nil g1))).append (RVL.monoX h2 hcs)
    refine hF.calls ((h.run g1 w₁ _ (hG.monoX h2) h5 hargs).mono fun e w₃ k => ?_)
    cases e with
    | returned v =>
      obtain ⟨g2, σ2, r, q1, q2, q3, q4⟩ := k
      simp only [rangeQ] at q4
      cases hl : loopAt σ2 σ.next with
      | none => rw [hl] at q4; exact q4.elim
      | some l2 =>
        rw [hl] at q4
        obtain ⟨q4, q5⟩ := q4
        have ho := loopAt_some hl
        have hob := q2.objs σ.next
        rw [ho] at hob
        obtain ⟨i', r2, m1, m2, m3, m4, m5, m6, m7, m8, m9, m10⟩ := hob
        have hi2 := q1.x.info _ _ h3
        rw [hi2] at m1; cases m1
        have hS2 := Sim.setLoop (l' := { l2 with st := .exhausted }) (r' := { r2 with state := .exhausted }) q2 ho hi2 m3 m4 m5 m6 m7 m8 rfl m10
        have hS3 : Sim E.B E.w0 g2 (σ2.set σ.next .dead) _ := hS2.forget ⟨rfl, fun j => by
          by_cases e : j = σ.next
          · subst e; right; simp [State.set]
          · left; simp [State.set, e]⟩
        rw [h4] at m3 hS3
        refine ⟨_, _, endLoop_run m3 (by rw [m9]; exact q4), ?_⟩
        have hT2 := h6.mono q1
        have hle := h2.trans q1.x
        rw [m10] at hS3 ⊢
        cases hp : l2.pend with
        | none => rw [hp] at q5 hS3; exact ⟨g2, a, _, loc, hle, hS3, hT2, q5⟩
        | some c =>
          rw [hp] at q5 hS3
          cases c <;> simp only at q5 <;> first | exact q5.elim | exact wpIn_ret ⟨g2, a, _, loc, hle, hS3, hT2, q5⟩ | exact wpIn_exit ⟨g2, a, _, loc, hle, hS3, hT2, q5⟩
    | outgrown => exact k.elim
    | panicked c => exact k.elim
end
end Go.V
