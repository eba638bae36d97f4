/- The V-model, part 13b: regions that draw their order: one order is run; what stands beside an operation that changes things is shown to stay. -/
import Derived.Test.YtgnjidopnplbbaaGreatDoorV13
set_option linter.unusedSimpArgs false
set_option linter.unusedVariables false
namespace Go.V
open Go.RowKit

section
variable {E : Env} {H : Hand} {n : Nat} {R0 : Nat → Option Obj} {loc : Nat → Option Nat} {g : Ghost} {w : World} {σ : State} {a a1 : AAct} {act : Act}
variable {S : Nat → Prop} {ann : Ann} {o : Oper} {K K1 : Next'} {ops : Array Oper}

theorem mem_looks {o : Oper} {ops : Array Oper} {t : Nat} (h : .tmp t ∈ o.op.operands) : t ∈ o.looksAt ops := by
  unfold Oper.looksAt
  exact List.mem_append_left _ (List.mem_filterMap.2 ⟨.tmp t, by simpa using h, rfl⟩)

theorem guard_looks {o : Oper} {ops : Array Oper} {j d : Nat} {b : Bool} (hg : o.guard = some (j, b)) (hd : (ops[j]?).bind (·.dst) = some d) : d ∈ o.looksAt ops := by
  unfold Oper.looksAt
  refine List.mem_append_right _ ?_
  rw [hg]
  simp [hd]

theorem setB_same {d : Nat} {b : Bool} (h : (a.t d).low = .bool b) : a.setB d b = a := by
  have : a.t d = .v (.bool b) := by
    generalize a.t d = x at h
    cases x with
    | v y => exact congrArg TV.v h
    | l k off => cases h
  unfold AAct.setB
  have e : (fun j => if j = d then TV.v (.bool b) else a.t j) = a.t := by
    funext j
    split
    · rename_i e; rw [e, this]
    · rfl
  rw [e]

theorem stepS_rel (hH : HOk E H) (h : Agree S a a1) (hop : ∀ t ∈ o.looksAt ops, ¬ S t)
    (hK : ∀ a' a1' σ', Upd S o a1 a' a1' → K a' σ' → K1 a1' σ') (k : stepS E H ann ops o K a σ) : stepS E H ann ops o K1 a1 σ := by
  have hgo : goS E H ann o K a σ → goS E H ann o K1 a1 σ := goS_rel hH h (fun x hx t e => by subst e; exact hop t (mem_looks hx)) hK
  unfold stepS at *
  split
  · rename_i hg; simp only [hg] at k; exact hgo k
  · rename_i j want hg
    simp only [hg] at k
    split
    · rename_i hd; simp only [hd] at k; exact hK _ _ _ (put_upd h _) k
    · rename_i d hd
      simp only [hd] at k
      have ed : a1.t d = a.t d := h.t d (hop d (guard_looks hg hd))
      rw [ed]
      split
      · rename_i b hb
        simp only [hb] at k
        cases b
        · have e1 : a1.setB d false = a1 := setB_same (by rw [ed]; exact hb)
          rw [setB_same hb] at k; rw [e1]
          simp only [bcase] at k ⊢
          split
          · rename_i hw; simp only [hw, if_true] at k; exact hK _ _ _ (put_upd h _) k
          · rename_i hw; simp only [hw] at k; exact hgo k
        · have e1 : a1.setB d true = a1 := setB_same (by rw [ed]; exact hb)
          rw [setB_same hb] at k; rw [e1]
          simp only [bcase] at k ⊢
          split
          · rename_i hw; simp only [hw, if_true] at k; exact hgo k
          · rename_i hw; simp only [hw] at k; exact hK _ _ _ (put_upd h _) k
      · rename_i hb; simp only [hb] at k
      · rename_i h1 h2
        split at k
        · rename_i b hb; exact absurd hb (h1 b)
        · exact k.elim
        · exact hK _ _ _ (put_upd h _) k

theorem genS_get (hp : pureOp o = true) (k : genS E H ann o K a σ) : ∃ v σ', K (a.put o.dst v) σ' := by
  unfold genS at k
  split at k
  · exact ⟨_, _, k⟩
  · rename_i hr; exact (aop_nocall hp hr).elim
  · exact k.elim

theorem goS_get (hp : pureOp o = true) (k : goS E H ann o K a σ) : ∃ v σ', K (a.put o.dst v) σ' := by
  have hg : genS E H ann o K a σ → ∃ v σ', K (a.put o.dst v) σ' := genS_get hp
  unfold goS at k
  cases ho : o.op with
  | alloc e => simp [pureOp, ho] at hp
  | box e x => simp [pureOp, ho] at hp
  | store t x v => simp [pureOp, ho] at hp
  | load t x =>
    simp only [ho] at k
    split at k
    · split at k
      · exact ⟨_, _, k⟩
      · exact k.elim
    · exact hg k
  | fieldAddr s x f =>
    simp only [ho] at k
    split at k
    · split at k
      · split at k
        · exact k.elim
        · exact ⟨_, _, k⟩
      · exact k.elim
    · exact hg k
  | indexAddr t x i =>
    simp only [ho] at k
    split at k
    · split at k
      · split at k
        · exact ⟨_, _, k.2.2⟩
        · exact k.elim
      · exact k.elim
    · exact hg k
  | nilCheck x => simp only [ho] at k; split at k; exact ⟨_, _, k⟩; exact hg k
  | move x => simp only [ho] at k; split at k; exact ⟨_, _, k⟩; exact hg k
  | assign x => simp only [ho] at k; split at k; exact ⟨_, _, k⟩; exact hg k
  | _ => simp only [ho] at k; exact hg k

theorem stepS_get (hp : pureOp o = true) (k : stepS E H ann ops o K a σ) : ∃ v σ', K (a.put o.dst v) σ' := by
  unfold stepS at k
  split at k
  · exact goS_get hp k
  · split at k
    · exact ⟨_, _, k⟩
    · rename_i d hd
      split at k
      · rename_i b hb
        cases b
        · rw [setB_same hb] at k
          simp only [bcase] at k
          split at k
          · exact ⟨_, _, k⟩
          · exact goS_get hp k
        · rw [setB_same hb] at k
          simp only [bcase] at k
          split at k
          · exact goS_get hp k
          · exact ⟨_, _, k⟩
      · exact k.elim
      · exact ⟨_, _, k⟩

/-- What stands ahead of each operation, as bits. -/
def ancMask (anc : List Nat) (o : Oper) : Nat := o.after.toList.foldl (fun s e => if Region.binds .any e then s ||| 2 ^ e.on ||| anc.getD e.on 0 else s) 0

def ancGo : List Oper → List Nat → List Nat
  | [], acc => acc
  | o :: l, acc => ancGo l (acc ++ [ancMask acc o])

def isBefore (anc : List Nat) (k i : Nat) : Bool := (anc.getD i 0).testBit k

theorem ancMask_bit (anc : List Nat) (o : Oper) (k : Nat) : (ancMask anc o).testBit k = true → ∃ e ∈ o.after, Region.binds .any e = true ∧ (e.on = k ∨ isBefore anc k e.on = true) := by
  unfold ancMask
  have : ∀ (l : List Edge) (s : Nat), (l.foldl (fun s e => if Region.binds .any e then s ||| 2 ^ e.on ||| anc.getD e.on 0 else s) s).testBit k = true →
      s.testBit k = true ∨ ∃ e ∈ l, Region.binds .any e = true ∧ (e.on = k ∨ isBefore anc k e.on = true) := by
    intro l
    induction l with
    | nil => intro s h; exact .inl h
    | cons e l ih =>
      intro s h
      rw [List.foldl_cons] at h
      rcases ih _ h with h1 | ⟨e', h1, h2, h3⟩
      · by_cases hb : Region.binds .any e = true
        · rw [if_pos hb, Nat.testBit_or, Nat.testBit_or, Nat.testBit_two_pow] at h1
          simp only [Bool.or_eq_true, decide_eq_true_eq] at h1
          rcases h1 with (h1 | h1) | h1
          · exact .inl h1
          · exact .inr ⟨e, by simp, hb, .inl h1⟩
          · exact .inr ⟨e, by simp, hb, .inr h1⟩
        · rw [if_neg hb] at h1; exact .inl h1
      · exact .inr ⟨e', by simp [h1], h2, h3⟩
  intro h
  rcases this o.after.toList 0 h with h1 | ⟨e, h1, h2, h3⟩
  · simp at h1
  · exact ⟨e, by simpa using h1, h2, h3⟩

def opOk (anc eff : List Nat) (ops : Array Oper) (oi : Oper × Nat) : Bool :=
  (anc.getD oi.2 0 == ancMask anc oi.1) && (oi.1.after.toList.all fun e => !Region.binds .any e || decide (e.on < oi.2)) &&
  (eff.contains oi.2 || pureOp oi.1) &&
  (ops.toList.zipIdx.all fun ok => match ok.1.dst with
    | some t => (!(oi.1.looksAt ops).contains t || isBefore anc ok.2 oi.2 || eff.contains ok.2) && (ok.2 == oi.2 || oi.1.dst != some t)
    | none => true)

/-- The region's text lets us run it in one order. -/
def drawOk (anc eff : List Nat) (ops : Array Oper) : Bool :=
  ops.toList.zipIdx.all (opOk anc eff ops) && eff.all (decide <| · < ops.size)

/-- All operations that change things, and stand ahead of operation i, are done. -/
def eager (anc eff : List Nat) (done : List Nat) (i : Nat) : Bool := !eff.contains i && eff.all fun e => !isBefore anc e i || done.contains e

def newly (anc eff done : List Nat) (oi : Oper × Nat) : Bool :=
  match done with
  | [] => eager anc eff [] oi.2
  | e :: d => eager anc eff (e :: d) oi.2 && !eager anc eff d oi.2

def alive (anc eff done : List Nat) (oi : Oper × Nat) : Bool := eager anc eff done oi.2 && !(done.any fun e => isBefore anc oi.2 e)

def avail (anc eff done : List Nat) (oi : Oper × Nat) : Bool := eff.contains oi.2 && !done.contains oi.2 && eff.all fun e => !isBefore anc e oi.2 || done.contains e

def runN (E : Env) (H : Hand) (an : FnAnn) (id : Nat) (ops : Array Oper) : List (Oper × Nat) → Next' → AAct → State → Prop
  | [], K, a, σ => K a σ
  | (o, i) :: r, K, a, σ => stepS E H (an.ann id i) ops o (fun a' σ' => σ' = σ ∧ runN E H an id ops r K a' σ) a σ

def sameAt (dst : Option Tmp) (a' a : AAct) : Prop :=
  match dst with
  | some d => a'.t d = a.t d
  | none => True

def checkN (E : Env) (H : Hand) (an : FnAnn) (id : Nat) (ops : Array Oper) : List (Oper × Nat) → AAct → State → Prop
  | [], a, σ => True
  | (o, i) :: r, a, σ => stepS E H (an.ann id i) ops o (fun a' σ' => σ' = σ ∧ sameAt o.dst a' a) a σ ∧ checkN E H an id ops r a σ

def allE {α : Type} (p : α → Prop) : List α → Prop
  | [] => True
  | [x] => p x
  | x :: r => p x ∧ allE p r

theorem allE_mem {α : Type} {p : α → Prop} : ∀ {l : List α}, allE p l → ∀ x ∈ l, p x
  | [], _, x, hx => by cases hx
  | [y], h, x, hx => by simp at hx; subst hx; exact h
  | y :: z :: r, h, x, hx => by
    rcases List.mem_cons.1 hx with rfl | hx
    · exact h.1
    · exact allE_mem h.2 x hx

def drawS (E : Env) (H : Hand) (an : FnAnn) (id : Nat) (ops : Array Oper) (anc eff : List Nat) : Nat → List Nat → Next' → AAct → State → Prop
  | 0, _, _, _, _ => False
  | f + 1, done, K, a, σ =>
    runN E H an id ops (ops.toList.zipIdx.filter (newly anc eff done)) (fun a' σ' =>
      checkN E H an id ops (ops.toList.zipIdx.filter (alive anc eff done)) a' σ' ∧
      (match eff.all (done.contains ·) with
        | true => K a' σ'
        | false => allE (fun (oi : Oper × Nat) => stepS E H (an.ann id oi.2) ops oi.1 (fun a'' σ'' => drawS E H an id ops anc eff f (oi.2 :: done) K a'' σ'') a' σ') (ops.toList.zipIdx.filter (avail anc eff done)))) a σ

theorem runN_get {an : FnAnn} {id : Nat} : ∀ (l : List (Oper × Nat)) (K : Next') (a : AAct), (∀ x ∈ l, pureOp x.1 = true) → runN E H an id ops l K a σ →
    ∃ a', K a' σ ∧ a'.l = a.l ∧ ∀ t, (∀ x ∈ l, x.1.dst ≠ some t) → a'.t t = a.t t
  | [], K, a, _, h => ⟨a, h, rfl, fun _ _ => rfl⟩
  | (o, i) :: r, K, a, hp, h => by
    obtain ⟨v, σ', _, h1⟩ := stepS_get (hp (o, i) (by simp)) h
    obtain ⟨a', h2, h3, h4⟩ := runN_get r K _ (fun x hx => hp x (by simp [hx])) h1
    refine ⟨a', h2, ?_, fun t ht => ?_⟩
    · rw [h3]; cases o.dst <;> rfl
    · rw [h4 t fun x hx => ht x (by simp [hx])]
      have := ht (o, i) (by simp)
      cases hd : o.dst with
      | none => rfl
      | some d =>
        show (if t = d then v else a.t t) = a.t t
        rw [if_neg]; rintro rfl; exact this hd

theorem checkN_mem {an : FnAnn} {id : Nat} : ∀ {l : List (Oper × Nat)}, checkN E H an id ops l a σ → ∀ x ∈ l, stepS E H (an.ann id x.2) ops x.1 (fun a' σ' => σ' = σ ∧ sameAt x.1.dst a' a) a σ
  | [], _, x, hx => by cases hx
  | y :: r, h, x, hx => by
    rcases List.mem_cons.1 hx with rfl | hx
    · exact h.1
    · exact checkN_mem h.2 x hx
end
end Go.V
