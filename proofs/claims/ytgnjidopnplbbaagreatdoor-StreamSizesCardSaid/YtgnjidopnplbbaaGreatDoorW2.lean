/- The W-layer, part 2: the condition of a code on values that are not known whole, for the kernel to compute; contracts, loops with invariants. -/
import Derived.Test.YtgnjidopnplbbaaGreatDoorW1
set_option linter.unusedSimpArgs false
set_option linter.unusedVariables false
namespace Go.V
open Go.RowKit

/-- What is told of one operation: that it is run on what is not known whole; and the shape of its result. -/
structure Hint : Type 1 where
  sym : Bool
  cast : Option ((α : Type) × (α → AV))

def Hint.no : Hint := ⟨false, none⟩
def Hint.s : Hint := ⟨true, none⟩
def Hint.as {α : Type} (f : α → AV) : Hint := ⟨true, some ⟨α, f⟩⟩

def castP (c : Option ((α : Type) × (α → AV))) (v : AV) (k : AV → Prop) : Prop :=
  match c with
  | none => k v
  | some ⟨α, f⟩ => ∃ x : α, v = f x ∧ k (f x)

theorem castP_ok {c : Option ((α : Type) × (α → AV))} {v : AV} {k : AV → Prop} (h : castP c v k) : k v := by
  unfold castP at h
  split at h
  · exact h
  · obtain ⟨x, rfl, h⟩ := h; exact h

abbrev FnHint := Nat → Nat → Hint

section
variable (E : Env) (H : Hand)

def genC (hn : Hint) (ann : Ann) (o : Oper) (K : Next') (a : AAct) (σ : State) : Prop :=
  (copF E.P hn.sym ann o (aval E.G a.low) σ).post fun r => match r with
    | .ok v σ' => castP hn.cast v fun v => K (a.put o.dst (.v v)) σ'
    | .call f args => H f args σ fun v σ' => castP hn.cast v fun v => K (a.put o.dst (.v v)) σ'
    | .fail => False

def newC (ann : Ann) (o : Oper) (cs : List AV) (K : Next') (gen : Prop) (a : AAct) (σ : State) : Prop :=
  match ann, o.dst with
  | .none, some d => match cs.all AV.one with
    | true => K (a.newL d cs) σ
    | false => False
  | _, _ => gen

/-- A cell of a variable of the frame's own, under a number that is not known. -/
def pickL (P : Program) (t : Nat) (cs : List AV) (off : Nat) (k : AV → Prop) : Nat → Nat → Prop
  | _, 0 => False
  | j, m + 1 => bcase (decide (off = j)) (match apart P t cs j with
    | some v => k v
    | none => False) (pickL P t cs off k (j + 1) m)

theorem pickL_ok {P : Program} {t : Nat} {cs : List AV} {off : Nat} {k : AV → Prop} : ∀ (m j : Nat), pickL P t cs off k j m → ∃ v, apart P t cs off = some v ∧ k v
  | 0, j, h => h.elim
  | m + 1, j, h => by
    unfold pickL at h
    cases hb : decide (off = j) with
    | true =>
      rw [hb] at h
      have e : off = j := by simpa using hb
      subst e
      simp only [bcase] at h
      split at h
      · rename_i v hv; exact ⟨v, hv, h⟩
      · exact h.elim
    | false => rw [hb] at h; exact pickL_ok m (j + 1) h

def goC (hn : Hint) (ann : Ann) (o : Oper) (K : Next') (a : AAct) (σ : State) : Prop :=
  match o.op with
  | .alloc e => match zerT E.P e with
    | some z => newC ann o (av z).cells K (genC E H hn ann o K a σ) a σ
    | none => False
  | .box e x => match tval E.G a x with
    | .v v => newC ann o v.cells K (genC E H hn ann o K a σ) a σ
    | .l _ _ => False
  | .load t x => match tval E.G a x with
    | .l k off => match hn.sym with
      | true => pickL E.P t (a.l k) off (fun v => castP hn.cast v fun v => K (a.put o.dst (.v v)) σ) 0 (a.l k).length
      | false => match apart E.P t (a.l k) off with
        | some v => castP hn.cast v fun v => K (a.put o.dst (.v v)) σ
        | none => False
    | .v _ => genC E H hn ann o K a σ
  | .store t x v => match tval E.G a x with
    | .l k off =>
      match !(tval E.G a v).low.isUndef && (decide (szT E.P t = some (tval E.G a v).low.cells.length) && ((tval E.G a v).low.cells.all AV.one && (Nat.ble (off + (tval E.G a v).low.cells.length) (a.l k).length && o.dst.isNone))) with
      | true => K (a.setL k (asplice (a.l k) off (tval E.G a v).low.cells)) σ
      | false => False
    | .v _ => genC E H hn ann o K a σ
  | .fieldAddr s x f => match tval E.G a x with
    | .l k off => match fldT E.P s f with
      | some (_, p, m) => match Nat.beq m 0 with
        | true => False
        | false => K (a.put o.dst (.l k (off + p))) σ
      | none => False
    | .v _ => genC E H hn ann o K a σ
  | .indexAddr t x i => match tval E.G a x with
    | .l k off => match tval E.G a i, arrT E.P t with
      | .v (.int _ j), some (len, e) => match szT E.P e with
        | some sz => match hn.sym with
          | true => 0 ≤ j ∧ j < len ∧ K (a.put o.dst (.l k (off + j.toNat * sz))) σ
          | false => match decide (0 ≤ j) && decide (j < len) with
            | true => K (a.put o.dst (.l k (off + j.toNat * sz))) σ
            | false => False
        | none => False
      | _, _ => False
    | .v _ => genC E H hn ann o K a σ
  | .nilCheck x => match tval E.G a x with
    | .l k off => K (a.put o.dst (.l k off)) σ
    | .v _ => genC E H hn ann o K a σ
  | .move x => match tval E.G a x with
    | .l k off => K (a.put o.dst (.l k off)) σ
    | .v _ => genC E H hn ann o K a σ
  | .assign x => match tval E.G a x with
    | .l k off => K (a.put o.dst (.l k off)) σ
    | .v _ => genC E H hn ann o K a σ
  | _ => genC E H hn ann o K a σ

def stepC (hn : Hint) (ann : Ann) (ops : Array Oper) (o : Oper) (K : Next') (a : AAct) (σ : State) : Prop :=
  match o.guard with
  | none => goC E H hn ann o K a σ
  | some (j, want) => match (ops[j]?).bind (·.dst) with
    | none => K (a.put o.dst (.v (.tuple []))) σ
    | some d => match (a.t d).low with
      | .bool b => bcase b
          (match want with | true => goC E H hn ann o K (a.setB d true) σ | false => K ((a.setB d true).put o.dst (.v (.tuple []))) σ)
          (match want with | true => K ((a.setB d false).put o.dst (.v (.tuple []))) σ | false => goC E H hn ann o K (a.setB d false) σ)
      | .undef => False
      | _ => K (a.put o.dst (.v (.tuple []))) σ

def opsC (an : FnAnn) (hs : FnHint) (id : Nat) (ops : Array Oper) : List Oper → Nat → Next' → AAct → State → Prop
  | [], _, K, a, σ => K a σ
  | o :: l, i, K, a, σ => stepC E H (hs id i) (an.ann id i) ops o (fun a σ => opsC an hs id ops l (i + 1) K a σ) a σ

def runC (an : FnAnn) (hs : FnHint) (id : Nat) (ops : Array Oper) : List (Oper × Nat) → Next' → AAct → State → Prop
  | [], K, a, σ => K a σ
  | (o, i) :: r, K, a, σ => match plainA (an.ann id i) && stillOp o.op with
    | true => stepC E H (hs id i) .none ops o (fun a' σ' => runC an hs id ops r K a' σ) a σ
    | false => False

def sameAtC (dst : Option Tmp) (a' a : AAct) : Prop :=
  match dst with
  | some d => a'.t d = a.t d
  | none => True

def checkC (an : FnAnn) (hs : FnHint) (id : Nat) (ops : Array Oper) : List (Oper × Nat) → AAct → State → Prop → Prop
  | [], a, σ, R => R
  | (o, i) :: r, a, σ, R => match plainA (an.ann id i) && stillOp o.op with
    | true => stepC E H (hs id i) .none ops o (fun a' σ' => sameAtC o.dst a' a) a σ ∧ checkC an hs id ops r a σ R
    | false => False

end
def clash (ops : Array Oper) (x y : Oper × Nat) : Bool :=
  match y.1.dst with
  | some d => (x.1.looksAt ops).contains d || (match x.1.dst with
    | some e => Nat.beq e d
    | none => false)
  | none => false
def ownClash (ops : Array Oper) (x : Oper × Nat) : Bool :=
  match x.1.dst with
  | some d => (x.1.looksAt ops).contains d
  | none => false
/-- No operation writes where one ahead of it looks or writes. -/
def settled (ops : Array Oper) : List (Oper × Nat) → Bool
  | [] => true
  | x :: r => !ownClash ops x && (r.all (fun y => !clash ops x y) && settled ops r)

section
variable (E : Env) (H : Hand)
def allC {α : Type} (p : α → Prop) : List α → Prop
  | [] => True
  | [x] => p x
  | x :: r => p x ∧ allC p r

def drawC (an : FnAnn) (hs : FnHint) (id : Nat) (ops : Array Oper) (anc eff : List Nat) : Nat → List Nat → Next' → AAct → State → Prop
  | 0, _, _, _, _ => False
  | f + 1, done, K, a, σ => match settled ops (ops.toList.zipIdx.filter (newly anc eff done)) && (ops.toList.zipIdx.filter (newly anc eff done)).all (fun x => pureOp x.1) with
    | true => runC E H an hs id ops (ops.toList.zipIdx.filter (newly anc eff done)) (fun a' σ' =>
      checkC E H an hs id ops (ops.toList.zipIdx.filter (fun x => alive anc eff done x && !newly anc eff done x)) a' σ'
      (match eff.all (done.contains ·) with
        | true => K a' σ'
        | false => allC (fun (oi : Oper × Nat) => stepC E H (hs id oi.2) (an.ann id oi.2) ops oi.1 (fun a'' σ'' => drawC an hs id ops anc eff f (oi.2 :: done) K a'' σ'') a' σ') (ops.toList.zipIdx.filter (avail anc eff done)))) a σ
    | false => False

def wpC (L : LHand) (an : FnAnn) (hs : FnHint) : Code → Post → AAct → State → Prop
  | .skip, Q, a, σ => Q .normal a σ
  | .region id ops false, Q, a, σ => opsC E H an hs id ops ops.toList 0 (Q .normal) a σ
  | .region id ops true, Q, a, σ => drawC E H an hs id ops (ancOf ops) (an.eff id) ((an.eff id).length + 1) [] (Q .normal) a σ
  | .seq x y, Q, a, σ => wpC L an hs x (fun e a σ => match e with | .normal => wpC L an hs y Q a σ | e => Q e a σ) a σ
  | .cond c x y, Q, a, σ => match (tval E.G a c).low with
    | .bool b => bcase b (wpC L an hs x Q (a.setC c true) σ) (wpC L an hs y Q (a.setC c false) σ)
    | _ => False
  | .block id c, Q, a, σ => wpC L an hs c (fun e a σ => match e with | .exit id' => (match Nat.beq id' id with | true => Q .normal a σ | false => Q (.exit id') a σ) | e => Q e a σ) a σ
  | .loop c, Q, a, σ => L (.loop c) Q a σ
  | .rangeFunc f ps x y, Q, a, σ => L (.rangeFunc f ps x y) Q a σ
  | .exit id, Q, a, σ => Q (.exit id) a σ
  | .ret, Q, a, σ => Q .ret a σ
  | _, _, _, _ => False
end

/-- The loops of a code that are not within another. -/
def loopsIn : Code → List Code
  | .seq a b => loopsIn a ++ loopsIn b
  | .cond _ a b => loopsIn a ++ loopsIn b
  | .block _ c => loopsIn c
  | .loop c => [.loop c]
  | .rangeFunc f ps x y => [.rangeFunc f ps x y]
  | _ => []

def HOk1 (E : Env) (H : Hand) : Prop := ∀ t args σ Q, H t args σ Q → selfH E t args σ Q


/-! An operation that has just been run needs no second run. -/
section
variable {E : Env} {H : Hand} {σ : State} {a : AAct} {an : FnAnn} {ann : Ann} {o : Oper} {K : Next'} {ops : Array Oper}

theorem genS_det (hp : pureOp o = true) (k : genS E H ann o K a σ) : ∃ v σ', K (a.put o.dst v) σ' ∧ ∀ K' : Next', K' (a.put o.dst v) σ' → genS E H ann o K' a σ := by
  unfold genS at k
  split at k
  · rename_i hr
    exact ⟨_, _, k, fun K' k' => by unfold genS; rw [hr]; exact k'⟩
  · rename_i hr; exact (aop_nocall hp hr).elim
  · exact k.elim

theorem goS_det (hp : pureOp o = true) (k : goS E H ann o K a σ) : ∃ v σ', K (a.put o.dst v) σ' ∧ ∀ K' : Next', K' (a.put o.dst v) σ' → goS E H ann o K' a σ := by
  have hg : genS E H ann o K a σ → ∃ v σ', K (a.put o.dst v) σ' ∧ ∀ K' : Next', K' (a.put o.dst v) σ' → genS E H ann o K' a σ := genS_det hp
  have lift : (∃ v σ', K (a.put o.dst v) σ' ∧ ∀ K' : Next', K' (a.put o.dst v) σ' → genS E H ann o K' a σ) → (∀ K' : Next', genS E H ann o K' a σ → goS E H ann o K' a σ) → ∃ v σ', K (a.put o.dst v) σ' ∧ ∀ K' : Next', K' (a.put o.dst v) σ' → goS E H ann o K' a σ :=
    fun ⟨v, σ', h1, h2⟩ h3 => ⟨v, σ', h1, fun K' k' => h3 _ (h2 _ k')⟩
  unfold goS at k
  cases ho : o.op with
  | alloc e => simp [pureOp, ho] at hp
  | box e x => simp [pureOp, ho] at hp
  | store t x v => simp [pureOp, ho] at hp
  | load t x =>
    simp only [ho] at k
    split at k
    · rename_i hz
      split at k
      · rename_i hw; exact ⟨_, _, k, fun K' k' => by unfold goS; simp only [ho, hz, hw]; exact k'⟩
      · exact k.elim
    · rename_i hz; exact lift (hg k) fun K' k' => by unfold goS; simp only [ho, hz]; exact k'
  | fieldAddr s x f =>
    simp only [ho] at k
    split at k
    · rename_i hz
      split at k
      · rename_i hw
        split at k
        · exact k.elim
        · rename_i hm; exact ⟨_, _, k, fun K' k' => by unfold goS; simp only [ho, hz, hw, hm, if_false]; exact k'⟩
      · exact k.elim
    · rename_i hz; exact lift (hg k) fun K' k' => by unfold goS; simp only [ho, hz]; exact k'
  | indexAddr t x i =>
    simp only [ho] at k
    split at k
    · rename_i hz
      split at k
      · rename_i h1 h2
        split at k
        · rename_i h3; exact ⟨_, _, k.2.2, fun K' k' => by unfold goS; simp only [ho, hz, h1, h2, h3]; exact ⟨k.1, k.2.1, k'⟩⟩
        · exact k.elim
      · exact k.elim
    · rename_i hz; exact lift (hg k) fun K' k' => by unfold goS; simp only [ho, hz]; exact k'
  | nilCheck x =>
    simp only [ho] at k
    split at k <;> rename_i hz
    · exact ⟨_, _, k, fun K' k' => by unfold goS; simp only [ho, hz]; exact k'⟩
    · exact lift (hg k) fun K' k' => by unfold goS; simp only [ho, hz]; exact k'
  | move x =>
    simp only [ho] at k
    split at k <;> rename_i hz
    · exact ⟨_, _, k, fun K' k' => by unfold goS; simp only [ho, hz]; exact k'⟩
    · exact lift (hg k) fun K' k' => by unfold goS; simp only [ho, hz]; exact k'
  | assign x =>
    simp only [ho] at k
    split at k <;> rename_i hz
    · exact ⟨_, _, k, fun K' k' => by unfold goS; simp only [ho, hz]; exact k'⟩
    · exact lift (hg k) fun K' k' => by unfold goS; simp only [ho, hz]; exact k'
  | _ => simp only [ho] at k; exact lift (hg k) fun K' k' => by unfold goS; simp only [ho]; exact k'

theorem stepS_det (hp : pureOp o = true) (k : stepS E H ann ops o K a σ) : ∃ v σ', K (a.put o.dst v) σ' ∧ ∀ K' : Next', K' (a.put o.dst v) σ' → stepS E H ann ops o K' a σ := by
  have lift : (∃ v σ', K (a.put o.dst v) σ' ∧ ∀ K' : Next', K' (a.put o.dst v) σ' → goS E H ann o K' a σ) → (∀ K' : Next', goS E H ann o K' a σ → stepS E H ann ops o K' a σ) → ∃ v σ', K (a.put o.dst v) σ' ∧ ∀ K' : Next', K' (a.put o.dst v) σ' → stepS E H ann ops o K' a σ :=
    fun ⟨v, σ', h1, h2⟩ h3 => ⟨v, σ', h1, fun K' k' => h3 _ (h2 _ k')⟩
  unfold stepS at k
  split at k
  · rename_i hg; exact lift (goS_det hp k) fun K' k' => by unfold stepS; simp only [hg]; exact k'
  · rename_i j want hg
    split at k
    · rename_i hd; exact ⟨_, _, k, fun K' k' => by unfold stepS; simp only [hg, hd]; exact k'⟩
    · rename_i d hd
      split at k
      · rename_i b hb
        cases b
        · rw [setB_same hb] at k
          simp only [bcase] at k
          split at k
          · rename_i hw; exact ⟨_, _, k, fun K' k' => by unfold stepS; simp only [hg, hd, hb, bcase, hw, if_true]; rw [setB_same hb]; exact k'⟩
          · rename_i hw; exact lift (goS_det hp k) fun K' k' => by unfold stepS; simp only [hg, hd, hb, bcase, hw, if_false]; rw [setB_same hb]; exact k'
        · rw [setB_same hb] at k
          simp only [bcase] at k
          split at k
          · rename_i hw; exact lift (goS_det hp k) fun K' k' => by unfold stepS; simp only [hg, hd, hb, bcase, hw, if_true]; rw [setB_same hb]; exact k'
          · rename_i hw; exact ⟨_, _, k, fun K' k' => by unfold stepS; simp only [hg, hd, hb, bcase, hw, if_false]; rw [setB_same hb]; exact k'⟩
      · exact k.elim
      · rename_i h1 h2
        refine ⟨_, _, k, fun K' k' => ?_⟩
        unfold stepS
        simp only [hg, hd]
        exact k'

def chk (E : Env) (H : Hand) (an : FnAnn) (id : Nat) (ops : Array Oper) (x : Oper × Nat) (a : AAct) (σ : State) : Prop :=
  stepS E H (an.ann id x.2) ops x.1 (fun a' σ' => σ' = σ ∧ sameAt x.1.dst a' a) a σ

theorem put_ne (a : AAct) {dst : Option Tmp} (v : TV) {t : Nat} (h : dst ≠ some t) : (a.put dst v).t t = a.t t := by
  cases dst with
  | none => rfl
  | some d =>
    show (if t = d then v else a.t t) = a.t t
    rw [if_neg]; rintro rfl; exact h rfl

theorem agree_put (a : AAct) (dst : Option Tmp) (v : TV) : Agree (fun t => dst = some t) a (a.put dst v) :=
  ⟨by cases dst <;> rfl, fun t ht => put_ne a v ht⟩

theorem chk_put (hH : HOk E H) {id : Nat} {x y : Oper × Nat} {v : TV} (hc : clash ops y x = false) (h : chk E H an id ops y a σ) : chk E H an id ops y (a.put x.1.dst v) σ := by
  have hc1 : ∀ t ∈ y.1.looksAt ops, ¬ x.1.dst = some t := by
    intro t ht e
    unfold clash at hc
    rw [e] at hc
    simp only [Bool.or_eq_false_iff] at hc
    have : (y.1.looksAt ops).contains t = true := by simpa using ht
    rw [this] at hc; cases hc.1
  have hc2 : ∀ t, y.1.dst = some t → ¬ x.1.dst = some t := by
    intro t ht e
    unfold clash at hc
    rw [e, ht] at hc
    simp at hc
  unfold chk at *
  refine stepS_rel hH (agree_put a x.1.dst v) hc1 (fun a' a1' σ' hu k => ⟨k.1, ?_⟩) h
  have k2 := k.2
  unfold sameAt at *
  split
  · rename_i d hd
    rw [hd] at k2
    dsimp only at k2
    rw [hu.t d (.inr hd), k2, put_ne a v (hc2 d hd)]
  · trivial

theorem run_settled (hH : HOk E H) {id : Nat} : ∀ (l p : List (Oper × Nat)) (K : Next') (a : AAct), (∀ x ∈ l, pureOp x.1 = true) → settled ops l = true → (∀ y ∈ p, chk E H an id ops y a σ) → (∀ y ∈ p, ∀ x ∈ l, clash ops y x = false) →
    runN E H an id ops l K a σ → runN E H an id ops l (fun a' σ' => (∀ y, y ∈ p ∨ y ∈ l → chk E H an id ops y a' σ) ∧ K a' σ') a σ
  | [], p, K, a, _, _, hp, _, k => by
    refine ⟨fun y hy => ?_, k⟩
    rcases hy with hy | hy
    · exact hp y hy
    · cases hy
  | (o, i) :: l, p, K, a, hpu, hs, hp, hc, k => by
    unfold runN at k ⊢
    obtain ⟨v, σ1, ⟨e, k1⟩, k2⟩ := stepS_det (hpu (o, i) (by simp)) k
    rw [e] at k2
    simp only [settled, Bool.and_eq_true, Bool.not_eq_true', List.all_eq_true] at hs
    have hA : ∀ y ∈ (o, i) :: p, chk E H an id ops y (a.put o.dst v) σ := by
      intro y hy
      rcases List.mem_cons.1 hy with rfl | hy
      · have hown : ∀ t ∈ o.looksAt ops, ¬ o.dst = some t := by
          intro t ht e
          have := hs.1
          unfold ownClash at this
          rw [e] at this
          have hk : (o.looksAt ops).contains t = true := by simpa using ht
          simp only at this
          rw [hk] at this; cases this
        have h1 : stepS E H (an.ann id i) ops o (fun a' σ' => σ' = σ ∧ a' = a.put o.dst v) a σ := k2 _ ⟨rfl, rfl⟩
        refine stepS_rel hH (agree_put a o.dst v) hown (fun a' a1' σ' hu k => ⟨k.1, ?_⟩) h1
        unfold sameAt
        split
        · rename_i d hd
          rw [hu.t d (.inr hd), k.2]
        · trivial
      · exact chk_put (x := (o, i)) hH (hc y hy (o, i) (by simp)) (hp y hy)
    have hB : ∀ y ∈ (o, i) :: p, ∀ x ∈ l, clash ops y x = false := by
      intro y hy x hx
      rcases List.mem_cons.1 hy with rfl | hy
      · exact hs.2.1 x hx
      · exact hc y hy x (by simp [hx])
    have hC := run_settled hH l ((o, i) :: p) K (a.put o.dst v) (fun x hx => hpu x (by simp [hx])) hs.2.2 hA hB k1
    refine k2 _ ⟨rfl, runN_mono hH (fun a σ k => ⟨fun y hy => k.1 y ?_, k.2⟩) _ _ _ hC⟩
    rcases hy with hy | hy
    · exact .inl (List.mem_cons_of_mem _ hy)
    · rcases List.mem_cons.1 hy with rfl | hy
      · exact .inl (by simp)
      · exact .inr hy
end

section
variable {E : Env} {H : Hand} {rd : Option Nat} {n : Nat} {σ : State} {a : AAct} {an : FnAnn} {hs : FnHint} {hn : Hint} {ann : Ann} {o : Oper} {K : Next'} {ops : Array Oper}

theorem genC_ok (hH : HOk1 E H) (h : genC E H hn ann o K a σ) : genS E (selfH E) ann o K a σ := by
  unfold genC at h
  have h := copF_is E.P _ h
  unfold genS
  split
  · rename_i hr; rw [hr] at h; exact castP_ok h
  · rename_i hr; rw [hr] at h; exact (hok_self E).mono _ _ _ _ _ (fun v σ' k => castP_ok k) (hH _ _ _ _ h)
  · rename_i hr; rw [hr] at h; exact h

theorem newC_ok {cs : List AV} {gen gen' : Prop} (hg : gen → gen') (h : newC ann o cs K gen a σ) : newS ann o cs K gen' a σ := by
  unfold newC at h
  unfold newS
  split
  · rename_i d hd
    simp only [hd] at h
    split at h
    · rename_i ho; exact ⟨ho, h⟩
    · exact h.elim
  · rename_i hne
    split at h
    · rename_i d hd; exact absurd hd (hne d rfl)
    · exact hg h

theorem goC_ok (hH : HOk1 E H) (k : goC E H hn ann o K a σ) : goS E (selfH E) ann o K a σ := by
  have hg : genC E H hn ann o K a σ → genS E (selfH E) ann o K a σ := genC_ok hH
  unfold goC at k
  unfold goS
  cases ho : o.op with
  | alloc e =>
    simp only [ho] at k ⊢
    split
    · rename_i z hz; simp only [hz] at k; exact newC_ok hg k
    · rename_i hz; simp only [hz] at k
  | box e x =>
    simp only [ho] at k ⊢
    split
    · rename_i v hz; simp only [hz] at k; exact newC_ok hg k
    · rename_i hz; simp only [hz] at k
  | load t x =>
    simp only [ho] at k ⊢
    split
    · rename_i hz; simp only [hz] at k
      split at k
      · obtain ⟨v, hv, k⟩ := pickL_ok _ _ k
        rw [hv]; exact castP_ok k
      · split
        · rename_i v hw; simp only [hw] at k; exact castP_ok k
        · rename_i hw; simp only [hw] at k
    · rename_i hz; simp only [hz] at k; exact hg k
  | store t x v =>
    simp only [ho] at k ⊢
    split
    · rename_i hz; simp only [hz] at k
      split at k
      · rename_i hc
        simp only [Bool.and_eq_true, Bool.not_eq_true', decide_eq_true_eq, Option.isNone_iff_eq_none] at hc
        exact ⟨hc.1, hc.2.1, hc.2.2.1, Nat.le_of_ble_eq_true hc.2.2.2.1, hc.2.2.2.2, k⟩
      · exact k.elim
    · rename_i hz; simp only [hz] at k; exact hg k
  | fieldAddr s x f =>
    simp only [ho] at k ⊢
    split
    · rename_i hz; simp only [hz] at k
      split
      · rename_i hw; simp only [hw] at k
        split at k
        · exact k.elim
        · rename_i hm
          rw [if_neg (by rintro rfl; simp at hm)]
          exact k
      · rename_i hw; simp only [hw] at k
    · rename_i hz; simp only [hz] at k; exact hg k
  | indexAddr t x i =>
    simp only [ho] at k ⊢
    split
    · rename_i hz; simp only [hz] at k
      split
      · rename_i h1 h2; simp only [h1, h2] at k
        split
        · rename_i h3; simp only [h3] at k
          split at k
          · exact k
          · split at k
            · rename_i hc
              simp only [Bool.and_eq_true, decide_eq_true_eq] at hc
              exact ⟨hc.1, hc.2, k⟩
            · exact k.elim
        · rename_i h3; simp only [h3] at k
      · rename_i h1
        split at k
        · rename_i h2 h3; exact absurd h3 (h1 _ _ _ _ h2)
        · exact k
    · rename_i hz; simp only [hz] at k; exact hg k
  | nilCheck x =>
    simp only [ho] at k ⊢
    split
    · rename_i hz; simp only [hz] at k; exact k
    · rename_i hz; simp only [hz] at k; exact hg k
  | move x =>
    simp only [ho] at k ⊢
    split
    · rename_i hz; simp only [hz] at k; exact k
    · rename_i hz; simp only [hz] at k; exact hg k
  | assign x =>
    simp only [ho] at k ⊢
    split
    · rename_i hz; simp only [hz] at k; exact k
    · rename_i hz; simp only [hz] at k; exact hg k
  | _ => simp only [ho] at k ⊢; exact hg k

theorem stepC_ok (hH : HOk1 E H) (k : stepC E H hn ann ops o K a σ) : stepS E (selfH E) ann ops o K a σ := by
  unfold stepC at k
  unfold stepS
  split
  · rename_i hg; simp only [hg] at k; exact goC_ok hH k
  · rename_i j want hg
    simp only [hg] at k
    split
    · rename_i hd; simp only [hd] at k; exact k
    · rename_i d hd
      simp only [hd] at k
      split
      · rename_i b hb
        simp only [hb] at k
        cases b <;> cases want <;> simp only [bcase, Bool.false_eq_true, if_true, if_false] at k ⊢ <;> first | exact goC_ok hH k | exact k
      · rename_i hb; simp only [hb] at k
      · rename_i h1 h2
        split at k
        · rename_i b hb; exact absurd hb (h1 b)
        · exact k.elim
        · exact k

theorem opsC_ok (hH : HOk1 E H) {id : Nat} : ∀ (l : List Oper) (i : Nat) (a : AAct) (σ : State), opsC E H an hs id ops l i K a σ → opsS E (selfH E) an id ops l i K a σ
  | [], _, _, _, k => k
  | o :: l, i, a, σ, k => stepS_mono (hok_self E) (fun a σ k => opsC_ok hH l (i + 1) a σ k) (stepC_ok hH k)

theorem runC_ok (hH : HOk1 E H) {id : Nat} : ∀ (l : List (Oper × Nat)) (K : Next') (a : AAct), runC E H an hs id ops l K a σ → runN E (selfH E) an id ops l K a σ
  | [], _, _, k => k
  | (o, i) :: l, K, a, k => by
    unfold runC at k
    split at k
    · rename_i hc
      rw [Bool.and_eq_true] at hc
      unfold runN
      rw [plainA_ok hc.1]
      exact stepS_mono (hok_self E) (fun a σ' k => ⟨k.1, runC_ok hH l K a k.2⟩) (stepS_still hc.2 (stepC_ok hH k))
    · exact k.elim

theorem checkC_ok (hH : HOk1 E H) {id : Nat} {R : Prop} : ∀ (l : List (Oper × Nat)), checkC E H an hs id ops l a σ R → checkN E (selfH E) an id ops l a σ ∧ R
  | [], k => ⟨trivial, k⟩
  | (o, i) :: l, k => by
    unfold checkC at k
    split at k
    · rename_i hc
      rw [Bool.and_eq_true] at hc
      unfold checkN
      obtain ⟨h1, h2⟩ := checkC_ok hH l k.2
      refine ⟨⟨?_, h1⟩, h2⟩
      simp only [plainA_ok hc.1]
      refine stepS_mono (hok_self E) (fun a' σ' k => ⟨k.1, ?_⟩) (stepS_still hc.2 (stepC_ok hH k.1))
      have h2 := k.2
      unfold sameAtC at h2
      unfold sameAt
      split
      · rename_i d hd; simp only [hd] at h2; exact h2
      · trivial
    · exact k.elim

theorem runN_same {id : Nat} : ∀ (l : List (Oper × Nat)) (K : Next') (a : AAct), runN E (selfH E) an id ops l K a σ → runN E (selfH E) an id ops l (fun a' σ' => σ' = σ ∧ K a' σ') a σ := by
  intro l
  induction l with
  | nil => intro K a k; exact ⟨rfl, k⟩
  | cons x l ih =>
    intro K a k
    exact stepS_mono (hok_self E) (fun a' σ' k => ⟨k.1, ih K a' k.2⟩) k
theorem checkN_of' {id : Nat} {H' : Hand} : ∀ {l : List (Oper × Nat)}, (∀ x ∈ l, stepS E H' (an.ann id x.2) ops x.1 (fun a' σ' => σ' = σ ∧ sameAt x.1.dst a' a) a σ) → checkN E H' an id ops l a σ
  | [], _ => trivial
  | x :: l, h => ⟨h x (by simp), checkN_of' fun y hy => h y (by simp [hy])⟩

theorem allC_ok {α : Type} {p q : α → Prop} (h : ∀ x, p x → q x) : ∀ l, allC p l → allE q l
  | [], _ => trivial
  | [x], k => h _ k
  | x :: y :: r, k => ⟨h _ k.1, allC_ok h (y :: r) k.2⟩

theorem drawC_ok (hH : HOk1 E H) {id : Nat} {anc eff : List Nat} : ∀ (f : Nat) (done : List Nat) (K : Next') (a : AAct) (σ : State), drawC E H an hs id ops anc eff f done K a σ → drawS E (selfH E) an id ops anc eff f done K a σ
  | 0, _, _, _, _, k => k.elim
  | f + 1, done, K, a, σ, k => by
    unfold drawC at k
    split at k
    case h_2 => exact k.elim
    rename_i hset
    rw [Bool.and_eq_true, List.all_eq_true] at hset
    unfold drawS
    have k := run_settled (hok_self E) _ [] _ a hset.2 hset.1 (by simp) (by simp) (runC_ok hH _ _ _ k)
    refine runN_mono (hok_self E) (fun a' σ' k => ?_) _ _ _ (runN_same _ _ _ k)
    obtain ⟨rfl, k0, k⟩ := k
    obtain ⟨k1, k2⟩ := checkC_ok hH _ k
    refine ⟨checkN_of' fun x hx => ?_, ?_⟩
    · obtain ⟨hx1, hx2⟩ := List.mem_filter.1 hx
      cases hn : newly anc eff done x with
      | true => exact k0 x (.inr (List.mem_filter.2 ⟨hx1, hn⟩))
      | false => exact checkN_mem k1 x (List.mem_filter.2 ⟨hx1, by rw [hx2, hn]; rfl⟩)
    · split
      · rename_i e; rw [e] at k2; exact k2
      · rename_i e; rw [e] at k2
        dsimp only at k2
        exact allC_ok (fun oi k => stepS_mono (hok_self E) (fun a σ k => drawC_ok hH f _ K a σ k) (stepC_ok hH k)) _ k2

theorem wpC_ok (hH : HOk1 E H) (hm : E.P.follows .mixedOrders = true) {L : LHand} : ∀ (c : Code) (Q : Post) (a : AAct) (σ : State), (∀ l ∈ loopsIn c, codeOk n an l = true → ∀ Q a σ, L l Q a σ → AWp E rd n l Q a σ) → codeOk n an c = true → wpC E H L an hs c Q a σ → AWp E rd n c Q a σ
  | .skip, Q, a, σ, hL, _, h => awp_skip h
  | .region id ops false, Q, a, σ, hL, hc, h => by
    simp only [codeOk, Bool.and_eq_true] at hc
    exact awp_region (hok_self E) hc.1 (opsC_ok hH _ _ _ _ h)
  | .region id ops true, Q, a, σ, hL, hc, h => by
    simp only [codeOk, Bool.and_eq_true, Bool.not_true, Bool.false_or] at hc
    exact awp_draw (hok_self E) hm hc.1 hc.2 (drawC_ok hH _ _ _ _ _ h)
  | .seq x y, Q, a, σ, hL, hc, h => by
    simp only [codeOk, Bool.and_eq_true] at hc
    refine awp_seq ((wpC_ok hH hm x _ a σ (fun l hl => hL l (List.mem_append_left _ hl)) hc.1 h).mono fun e a σ k => ?_)
    cases e <;> first | exact wpC_ok hH hm y Q a σ (fun l hl => hL l (List.mem_append_right _ hl)) hc.2 k | exact k
  | .cond c x y, Q, a, σ, hL, hc, h => by
    simp only [codeOk, Bool.and_eq_true] at hc
    simp only [wpC] at h
    split at h
    · rename_i b hb
      refine awp_cond hb (fun e => ?_) (fun e => ?_)
      · subst e; rw [setC_same hb] at h; exact wpC_ok hH hm x Q _ σ (fun l hl => hL l (List.mem_append_left _ hl)) hc.1 h
      · subst e; simp only [bcase] at h; rw [setC_same hb] at h; exact wpC_ok hH hm y Q _ σ (fun l hl => hL l (List.mem_append_right _ hl)) hc.2 h
    · exact h.elim
  | .block id c, Q, a, σ, hL, hc, h => by
    refine awp_block ((wpC_ok hH hm c _ a σ hL hc h).mono fun e a σ k => ?_)
    cases e with
    | exit id' =>
      simp only at k ⊢
      split at k
      · rename_i e; rw [if_pos (by simpa using e)]; exact k
      · rename_i e; rw [if_neg (by rintro rfl; rw [Nat.beq_refl] at e; cases e)]; exact k
    | _ => exact k
  | .loop c, Q, a, σ, hL, hc, h => hL _ (by simp [loopsIn]) hc _ _ _ h
  | .rangeFunc f ps x y, Q, a, σ, hL, hc, h => hL _ (by simp [loopsIn]) hc _ _ _ h
  | .exit id, Q, a, σ, hL, hc, h => awp_exit h
  | .ret, Q, a, σ, hL, hc, h => awp_ret h
  | .scope c, Q, a, σ, hL, hc, h => h.elim
  | .label l, Q, a, σ, hL, hc, h => h.elim
  | .goto l, Q, a, σ, hL, hc, h => h.elim
  | .refuse y, Q, a, σ, hL, hc, h => h.elim
end

/-- Where a function's body ends. -/
def retX (P : Program) (rs : List ResultVar) (Q : AV → State → Prop) (a : AAct) (σ : State) : Prop :=
  match ares P a σ rs with
  | some v => Q v σ
  | none => False

def retC (P : Program) (rs : List ResultVar) (Q : AV → State → Prop) (e : Exit) (a : AAct) (σ : State) : Prop :=
  match e with
  | .normal => retX P rs Q a σ
  | .ret => retX P rs Q a σ
  | _ => False

theorem retC_ok {P : Program} {rs : List ResultVar} {Q : AV → State → Prop} {e : Exit} {a : AAct} {σ : State} (h : retC P rs Q e a σ) : bodyQ P rs Q e a σ := by
  have key : retX P rs Q a σ → ∃ v v' σ', ares P a σ rs = some v ∧ Wk v v' ∧ σ'.Le σ ∧ Q v' σ' := by
    intro h
    unfold retX at h
    split at h
    · rename_i v hv; exact ⟨v, v, σ, hv, .refl v, .refl σ, h⟩
    · exact h.elim
  cases e <;> first | exact key h | exact h.elim

/-- A function's body, with handlers for calls and loops. -/
def bodyC (E : Env) (H : Hand) (L : LHand) (A : Nat → FnAnn) (hs : FnHint) (f : Nat) (args : List AV) (σ : State) (Q : AV → State → Prop) : Prop :=
  match E.P.funcs[f]? with
  | some fn => match fn.body with
    | some c => match codeOk fn.ntmps (A f) c && Nat.ble args.length fn.ntmps with
      | true => wpC E H L (A f) hs c (retC E.P fn.results.toList Q) (initA args) σ
      | false => False
    | none => False
  | none => False

/-- The loops of a function's body, and how many temporaries it has. -/
def fnLoops (P : Program) (f : Nat) : List Code :=
  match P.funcs[f]? with
  | some fn => match fn.body with
    | some c => loopsIn c
    | none => []
  | none => []
def fnTmps (P : Program) (f : Nat) : Nat :=
  match P.funcs[f]? with
  | some fn => fn.ntmps
  | none => 0

theorem bodyC_ok {E : Env} {H : Hand} {L : LHand} {A : Nat → FnAnn} {hs : FnHint} {f : Nat} {args : List AV} {σ : State} {Q : AV → State → Prop} (hm : E.P.follows .mixedOrders = true) (hH : HOk1 E H)
    (hL : ∀ l ∈ fnLoops E.P f, codeOk (fnTmps E.P f) (A f) l = true → ∀ Q a σ, L l Q a σ → AWp E none (fnTmps E.P f) l Q a σ) (h : bodyC E H L A hs f args σ Q) : ACalls E f args σ Q := by
  unfold bodyC at h
  unfold fnLoops fnTmps at hL
  split at h
  · rename_i fn hf
    rw [hf] at hL
    dsimp only at hL
    split at h
    · rename_i c hb
      rw [hb] at hL
      dsimp only at hL
      split at h
      · rename_i hc
        rw [Bool.and_eq_true] at hc
        exact acalls_body hf hb (Nat.le_of_ble_eq_true hc.2) ((wpC_ok hH hm c _ _ σ hL hc.1 h).mono fun e a σ k => retC_ok k)
      · exact h.elim
    · exact h.elim
  · exact h.elim

/-- Loops are run, on what is known. -/
def loopC (E : Env) (H : Hand) (own : Nat) (rd : Option Nat) (n : Nat) (an : FnAnn) (hs : FnHint) : Nat → LHand
  | 0 => fun _ _ _ _ => False
  | k + 1 => fun c Q a σ => match c with
    | .loop b => wpC E H (loopC E H own rd n an hs k) an hs b (fun e a σ => match e with | .normal => loopC E H own rd n an hs k (.loop b) Q a σ | e => Q e a σ) a σ
    | _ => False

theorem loopC_ok {E : Env} {H : Hand} {rd : Option Nat} {n : Nat} {an : FnAnn} {hs : FnHint} (hH : HOk1 E H) (hm : E.P.follows .mixedOrders = true) (own : Nat) : ∀ (k : Nat) (c : Code), codeOk n an c = true → ∀ (Q : Post) (a : AAct) (σ : State), loopC E H own rd n an hs k c Q a σ → AWp E rd n c Q a σ
  | 0, _, _, _, _, _, h => h.elim
  | k + 1, c, hc, Q, a, σ, h => by
    unfold loopC at h
    split at h
    · rename_i b
      refine awp_loop (fun m a σ => m ≤ k + 1 ∧ loopC E H own rd n an hs m (.loop b) Q a σ) (m := k + 1) ⟨Nat.le_refl _, h⟩ fun m a σ hI => ?_
      cases m with
      | zero => exact absurd hI.2 (by simp [loopC])
      | succ m =>
        refine (wpC_ok hH hm (L := loopC E H own rd n an hs m) b _ a σ (fun l _ hl Q a σ => loopC_ok hH hm own m l hl Q a σ) hc hI.2).mono fun e a σ h => ?_
        cases e <;> first | exact ⟨m, Nat.lt_succ_self m, Nat.le_of_succ_le hI.1, h⟩ | exact h
    · exact h.elim
  termination_by k => k

/-- Contracts. -/
abbrev Contract := List AV → State → (AV → State → Prop) → Prop
def ContractOk (E : Env) (f : Nat) (c : Contract) : Prop := ∀ args σ Q, c args σ Q → ACalls E f args σ Q

/-- Calls: by contracts, or else by running the body (with its loops on what is known). -/
def handC (E : Env) (A : Nat → FnAnn) (N : Nat → FnHint) (T : Nat → Option Contract) (lf : Nat) : Nat → Hand
  | 0 => fun _ _ _ _ => False
  | k + 1 => fun t args σ Q => match t with
    | .yield id => False
    | .fn f => match T f with
      | some c => c args σ Q
      | none => bodyC E (handC E A N T lf k) (loopC E (handC E A N T lf k) f none (fnTmps E.P f) (A f) (N f) lf) A (N f) f args σ Q

theorem handC_ok {E : Env} (hm : E.P.follows .mixedOrders = true) {A : Nat → FnAnn} {N : Nat → FnHint} {T : Nat → Option Contract} {lf : Nat} (hT : ∀ f c, T f = some c → ContractOk E f c) : ∀ k, HOk1 E (handC E A N T lf k)
  | 0 => fun _ _ _ _ h => h.elim
  | k + 1 => fun t args σ Q h => by
    unfold handC at h
    cases t with
    | yield id => exact h.elim
    | fn f =>
      dsimp only at h
      split at h
      · rename_i c hc; exact hT f c hc _ _ _ h
      · have ih := handC_ok (A := A) (N := N) (lf := lf) hm hT k
        exact bodyC_ok hm ih (fun l _ hl Q a σ k => loopC_ok ih hm f lf l hl Q a σ k) h

/-- A table of contracts. -/
def tabC : List (Nat × Contract) → Nat → Option Contract
  | [], _ => none
  | (k, c) :: l, f => match Nat.beq k f with
    | true => some c
    | false => tabC l f
theorem tabC_ok {E : Env} : ∀ {l : List (Nat × Contract)}, (∀ p ∈ l, ContractOk E p.1 p.2) → ∀ f c, tabC l f = some c → ContractOk E f c
  | [], _, _, _, h => by cases h
  | (k, c') :: l, hl, f, c, h => by
    unfold tabC at h
    split at h
    · rename_i e
      have := Nat.eq_of_beq_eq_true e
      subst this
      cases h
      exact hl (k, c') (by simp)
    · exact tabC_ok (fun p hp => hl p (by simp [hp])) f c h

theorem contracts_nil {E : Env} : ∀ p ∈ ([] : List (Nat × Contract)), ContractOk E p.1 p.2 := fun p hp => by cases hp
theorem contracts_cons {E : Env} {f : Nat} {c : Contract} {l : List (Nat × Contract)} (h : ContractOk E f c) (hl : ∀ p ∈ l, ContractOk E p.1 p.2) : ∀ p ∈ (f, c) :: l, ContractOk E p.1 p.2 := fun p hp => by
  rcases List.mem_cons.1 hp with rfl | hp
  · exact h
  · exact hl p hp

/-- Calls by contracts, or run. -/
def hnd (E : Env) (A : Nat → FnAnn) (N : Nat → FnHint) (l : List (Nat × Contract)) : Hand := handC E A N (tabC l) 100 50
theorem hnd_ok {E : Env} {A : Nat → FnAnn} {N : Nat → FnHint} {l : List (Nat × Contract)} (hm : E.P.follows .mixedOrders = true) (hl : ∀ p ∈ l, ContractOk E p.1 p.2) : HOk1 E (hnd E A N l) := by
  unfold hnd
  generalize 100 = lf
  generalize 50 = k
  exact handC_ok hm (tabC_ok hl) k

end Go.V
