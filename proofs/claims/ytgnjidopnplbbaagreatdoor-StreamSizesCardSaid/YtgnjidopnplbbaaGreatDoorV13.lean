/- The V-model, part 13: regions that draw their order. -/
import Derived.Test.YtgnjidopnplbbaaGreatDoorV12
set_option linter.unusedSimpArgs false
set_option linter.unusedVariables false
namespace Go.V
open Go.RowKit

theorem acall_congr {P : Program} {σ : State} {ann : Ann} {c : Call} {ρ ρ' : Operand → AV} (h : ∀ x ∈ c.operands, ρ x = ρ' x) : acall P σ ann c ρ = acall P σ ann c ρ' := by
  have hargs : c.args.toList.map ρ = c.args.toList.map ρ' := List.map_congr_left fun x hx => h x (by simp only [Call.operands, Array.mem_append]; exact .inr (by simpa using hx))
  unfold acall
  simp only [hargs]
  cases hc : c.callee with
  | value f => have hf : ρ f = ρ' f := h f (by simp [Call.operands, hc]); simp only [hf]
  | invoke r m => rfl
  | builtin b => cases b <;> rfl

theorem aop_congr {P : Program} {ann : Ann} {o : Op} {ρ ρ' : Operand → AV} {σ : State} (h : ∀ x ∈ o.operands, ρ x = ρ' x) : aop P ann o ρ σ = aop P ann o ρ' σ := by
  have pairs : ∀ ps : Array (Nat × Operand), (∀ x ∈ ps.toList.map (·.2), ρ x = ρ' x) →
      (ps.toList.map fun p => (p.1, ρ p.2)) = (ps.toList.map fun p => (p.1, ρ' p.2)) := fun ps hp =>
    List.map_congr_left fun p hm => by rw [hp p.2 (List.mem_map.2 ⟨p, hm, rfl⟩)]
  cases o <;> simp only [Op.operands] at h <;> simp only [aop]
  case build t ps => rw [pairs ps fun x hx => h x (by simpa using hx)]
  case buildSlice t n ps => rw [pairs ps fun x hx => h x (by simpa using hx)]
  case makeFunc fn first captured =>
    rw [List.map_congr_left (l := first.toList) fun x hx => h x (by simp only [Array.mem_append]; exact .inl (by simpa using hx)), List.map_congr_left (l := captured.toList) fun x hx => h x (by simp only [Array.mem_append]; exact .inr (by simpa using hx))]
  case call c => rw [acall_congr h]
  case makeMap t r => cases r <;> simp_all
  case slice t x lo hi mx => cases lo <;> cases hi <;> cases mx <;> simp_all
  all_goals (first | rfl | (simp_all; done))

theorem aopF_congr {P : Program} {ann : Ann} {o : Oper} {ρ ρ' : Operand → AV} {σ : State} (h : ∀ x ∈ o.op.operands, ρ x = ρ' x) : aopF P ann o ρ σ = aopF P ann o ρ' σ := by
  unfold aopF; rw [aop_congr h]

/-- An operation of which a frame's variables hear nothing, and that calls no function. -/
def pureOp (o : Oper) : Bool :=
  match o.op with
  | .alloc _ | .box _ _ | .store _ _ _ => false
  | .call c => match c.callee with
    | .value _ => false
    | _ => true
  | _ => true

theorem aop_nocall {P : Program} {ann : Ann} {o : Oper} {ρ : Operand → AV} {σ : State} {f : Tgt} {args : List AV} (hp : pureOp o = true) (h : aopF P ann o ρ σ = .call f args) : False := by
  have hof : ∀ (x : Option AV), Res.of σ x ≠ .call f args := fun x => by cases x <;> simp [Res.of]
  have key : aop P ann o.op ρ σ ≠ .call f args := by
    clear h
    obtain ⟨dst, op, type, pos, after, guard⟩ := o
    intro h
    cases op <;> simp only [aop, pureOp, Bool.false_eq_true] at h hp
    case call c =>
      unfold acall at h
      cases hc : c.callee with
      | value x => rw [hc] at hp; cases hp
      | invoke r m => rw [hc] at h; cases h
      | builtin b =>
        rw [hc] at h
        cases b <;> simp only at h <;> try (cases h; done)
        case len => split at h <;> (try split at h) <;> cases h
        case append =>
          split at h
          · unfold aappendZ at h
            split at h
            · unfold azeros at h
              repeat' (split at h <;> try (cases h; done))
            unfold aappend at h
            repeat' (split at h <;> try (cases h; done))
          · cases h
        case max => split at h <;> (try split at h) <;> cases h
        case cap => split at h <;> (try split at h) <;> cases h
        case min => split at h <;> (try split at h) <;> cases h
    case makeMap t r => cases r <;> simp only at h <;> cases h
    case range t x => split at h <;> cases h
    case next x b => repeat' (split at h <;> try (cases h; done))
    all_goals first | exact hof _ h | (unfold astore at h; repeat' (split at h <;> try (cases h; done))) | (unfold abuildSlice at h; repeat' (split at h <;> try (cases h; done))) | (unfold amake at h; repeat' (split at h <;> try (cases h; done))) | (unfold amapUpdate at h; repeat' (split at h <;> try (cases h; done))) | (cases h; done) | (repeat' (split at h <;> try (cases h; done)))
  unfold aopF at h
  split at h
  · split at h
    · split at h
      · split at h
        · unfold afreeze at h
          repeat' (split at h <;> try (cases h; done))
        · cases h
      · cases h
    · cases h
  · exact key h

section
variable {E : Env} {H : Hand} {n : Nat} {R0 : Nat → Option Obj} {loc : Nat → Option Nat} {g : Ghost} {w : World} {σ : State} {a a1 : AAct} {act : Act}

theorem aval_low (G : Nat → AV) (a : AAct) (x : Operand) : aval G a.low x = (tval G a x).low := by cases x <;> rfl

/-- What is known of the frame behind an operation, of which some temporaries were not known. -/
structure Upd (S : Nat → Prop) (o : Oper) (a1 a' a1' : AAct) : Prop where
  l : a1'.l = a'.l
  t : ∀ t, (¬ S t ∨ o.dst = some t) → a1'.t t = a'.t t
  p : pureOp o = true → a1'.l = a1.l ∧ ∀ t, o.dst ≠ some t → a1'.t t = a1.t t

structure Agree (S : Nat → Prop) (a a1 : AAct) : Prop where
  l : a1.l = a.l
  t : ∀ t, ¬ S t → a1.t t = a.t t

variable {S : Nat → Prop} {ann : Ann} {o : Oper} {K K1 : Next'}

theorem put_upd (h : Agree S a a1) (v : TV) : Upd S o a1 (a.put o.dst v) (a1.put o.dst v) := by
  cases hd : o.dst with
  | none => exact ⟨h.l, fun t ht => h.t t (ht.resolve_right (by rw [hd]; simp)), fun _ => ⟨rfl, fun t _ => rfl⟩⟩
  | some d =>
    refine ⟨h.l, fun t ht => ?_, fun _ => ⟨rfl, fun t ht => ?_⟩⟩
    · show (if t = d then v else a1.t t) = (if t = d then v else a.t t)
      split
      · rfl
      · rename_i e; exact h.t t (ht.resolve_right (by rw [hd]; intro e'; cases e'; exact e rfl))
    · show (if t = d then v else a1.t t) = a1.t t
      rw [if_neg (by rintro rfl; exact ht hd)]

theorem tval_agree (h : Agree S a a1) {x : Operand} (hx : ∀ t, x = .tmp t → ¬ S t) : tval E.G a1 x = tval E.G a x := by
  cases x with
  | tmp t => exact h.t t (hx t rfl)
  | _ => rfl

theorem genS_rel (hH : HOk E H) (h : Agree S a a1) (hop : ∀ x ∈ o.op.operands, ∀ t, x = .tmp t → ¬ S t)
    (hK : ∀ a' a1' σ', Upd S o a1 a' a1' → K a' σ' → K1 a1' σ') (k : genS E H ann o K a σ) : genS E H ann o K1 a1 σ := by
  unfold genS at *
  rw [aopF_congr (ρ := aval E.G a1.low) (ρ' := aval E.G a.low) fun x hx => by rw [aval_low, aval_low, tval_agree h (hop x hx)]]
  split
  · rename_i v σ' hr; rw [hr] at k; exact hK _ _ _ (put_upd h _) k
  · rename_i f args hr; rw [hr] at k; exact hH.mono _ _ _ _ _ (fun v σ' k => hK _ _ _ (put_upd h _) k) k
  · rename_i hr; rw [hr] at k; exact k

theorem newS_rel {cs : List AV} {gen gen1 : Prop} (h : Agree S a a1) (hp : pureOp o = false) (hg : gen → gen1)
    (hK : ∀ a' a1' σ', Upd S o a1 a' a1' → K a' σ' → K1 a1' σ') (k : newS ann o cs K gen a σ) : newS ann o cs K1 gen1 a1 σ := by
  unfold newS at *
  split
  · rename_i d hd
    simp only [hd] at k
    refine ⟨k.1, hK _ _ _ ⟨?_, fun t ht => ?_, fun e => by rw [hp] at e; cases e⟩ k.2⟩
    · show (fun j => if j = d then cs else a1.l j) = (fun j => if j = d then cs else a.l j)
      rw [h.l]
    · show (if t = d then TV.l d 0 else (a1.t t).kill d) = (if t = d then TV.l d 0 else (a.t t).kill d)
      split
      · rfl
      · rename_i e; rw [h.t t (ht.resolve_right (by rw [hd]; intro e'; cases e'; exact e rfl))]
  · rename_i hne
    refine hg ?_
    split at k
    · rename_i d hd; exact absurd hd (hne d rfl)
    · exact k

theorem goS_rel (hH : HOk E H) (h : Agree S a a1) (hop : ∀ x ∈ o.op.operands, ∀ t, x = .tmp t → ¬ S t)
    (hK : ∀ a' a1' σ', Upd S o a1 a' a1' → K a' σ' → K1 a1' σ') (k : goS E H ann o K a σ) : goS E H ann o K1 a1 σ := by
  have hg : genS E H ann o K a σ → genS E H ann o K1 a1 σ := genS_rel hH h hop hK
  have hv : ∀ x ∈ o.op.operands, tval E.G a1 x = tval E.G a x := fun x hx => tval_agree h (hop x hx)
  have hput := fun v => put_upd (o := o) h v
  unfold goS at *
  cases ho : o.op with
  | alloc e =>
    simp only [ho] at k ⊢
    split
    · rename_i z hz; simp only [hz] at k; exact newS_rel h (by simp [pureOp, ho]) hg hK k
    · rename_i hz; simp only [hz] at k
  | box e x =>
    simp only [ho] at k hv ⊢
    rw [hv x (by simp [Op.operands])]
    split
    · rename_i v hz; simp only [hz] at k; exact newS_rel h (by simp [pureOp, ho]) hg hK k
    · rename_i hz; simp only [hz] at k
  | load t x =>
    simp only [ho] at k hv ⊢
    rw [hv x (by simp [Op.operands]), h.l]
    split
    · rename_i hz; simp only [hz] at k
      split
      · rename_i v hw; simp only [hw] at k; exact hK _ _ _ (hput _) k
      · rename_i hw; simp only [hw] at k
    · rename_i hz; simp only [hz] at k; exact hg k
  | store t x v =>
    simp only [ho] at k hv ⊢
    rw [hv x (by simp [Op.operands]), hv v (by simp [Op.operands]), h.l]
    split
    · rename_i hz; simp only [hz] at k
      obtain ⟨k1, k2, k3, k4, k5, k6⟩ := k
      refine ⟨k1, k2, k3, k4, k5, hK _ _ _ ⟨?_, fun t ht => ?_, fun e => by simp [pureOp, ho] at e⟩ k6⟩
      · simp only [AAct.setL, h.l]
      · exact h.t t (ht.resolve_right (by rw [k5]; simp))
    · rename_i hz; simp only [hz] at k; exact hg k
  | fieldAddr s x f =>
    simp only [ho] at k hv ⊢
    rw [hv x (by simp [Op.operands])]
    split
    · rename_i hz; simp only [hz] at k
      split
      · rename_i hw; simp only [hw] at k
        split
        · rename_i hm; simp only [hm, if_true] at k
        · rename_i hm; simp only [hm, if_false] at k; exact hK _ _ _ (hput _) k
      · rename_i hw; simp only [hw] at k
    · rename_i hz; simp only [hz] at k; exact hg k
  | indexAddr t x i =>
    simp only [ho] at k hv ⊢
    rw [hv x (by simp [Op.operands]), hv i (by simp [Op.operands])]
    split
    · rename_i hz; simp only [hz] at k
      split
      · rename_i h1 h2; simp only [h1, h2] at k
        split
        · rename_i h3; simp only [h3] at k; exact ⟨k.1, k.2.1, hK _ _ _ (hput _) k.2.2⟩
        · rename_i h3; simp only [h3] at k
      · rename_i h1
        split at k
        · rename_i h2 h3; exact absurd h3 (h1 _ _ _ _ h2)
        · exact k
    · rename_i hz; simp only [hz] at k; exact hg k
  | nilCheck x =>
    simp only [ho] at k hv ⊢
    rw [hv x (by simp [Op.operands])]
    split
    · rename_i hz; simp only [hz] at k; exact hK _ _ _ (hput _) k
    · rename_i hz; simp only [hz] at k; exact hg k
  | move x =>
    simp only [ho] at k hv ⊢
    rw [hv x (by simp [Op.operands])]
    split
    · rename_i hz; simp only [hz] at k; exact hK _ _ _ (hput _) k
    · rename_i hz; simp only [hz] at k; exact hg k
  | assign x =>
    simp only [ho] at k hv ⊢
    rw [hv x (by simp [Op.operands])]
    split
    · rename_i hz; simp only [hz] at k; exact hK _ _ _ (hput _) k
    · rename_i hz; simp only [hz] at k; exact hg k
  | _ => simp only [ho] at k ⊢; exact hg k
end
end Go.V
