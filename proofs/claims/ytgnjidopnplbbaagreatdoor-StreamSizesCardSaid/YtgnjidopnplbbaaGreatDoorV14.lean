/- The V-model, part 14: the condition of a code, by its shape; a function's call out of it. -/
import Derived.Test.YtgnjidopnplbbaaGreatDoorV13c
set_option linter.unusedSimpArgs false
set_option linter.unusedVariables false
namespace Go.V
open Go.RowKit

/-- How loops are shown: by an invariant, or by running them. -/
abbrev LHand := Code → Post → AAct → State → Prop

def ancOf (ops : Array Oper) : List Nat := ancGo ops.toList []

/-- All regions of a code put their results where there is place; those that draw their order can be run in one. -/
def codeOk (n : Nat) (an : FnAnn) : Code → Bool
  | .region id ops dr => regOk n ops && (!dr || drawOk (ancOf ops) (an.eff id) ops)
  | .seq a b => codeOk n an a && codeOk n an b
  | .cond _ a b => codeOk n an a && codeOk n an b
  | .block _ c => codeOk n an c
  | .loop c => codeOk n an c
  | .rangeFunc _ _ a b => codeOk n an a && codeOk n an b
  | .scope c => codeOk n an c
  | _ => true

section
variable {E : Env} {H : Hand} {rd : Option Nat} {n : Nat} {R0 : Nat → Option Obj} {loc : Nat → Option Nat} {g : Ghost} {σ : State} {w : World} {a : AAct} {act : Act} {an : FnAnn}

def AAct.setC (a : AAct) (c : Operand) (b : Bool) : AAct :=
  match c with
  | .tmp d => a.setB d b
  | _ => a

theorem setC_same {G : Nat → AV} {c : Operand} {b : Bool} (hc : (tval G a c).low = .bool b) : a.setC c b = a := by
  cases c with
  | tmp d => exact setB_same hc
  | _ => rfl

/-- The condition, by the code's shape; loops are left to L. -/
def wpS (E : Env) (H : Hand) (L : LHand) (an : FnAnn) : Code → Post → AAct → State → Prop
  | .skip, Q, a, σ => Q .normal a σ
  | .region id ops false, Q, a, σ => opsS E H an id ops ops.toList 0 (Q .normal) a σ
  | .region id ops true, Q, a, σ => drawS E H an id ops (ancOf ops) (an.eff id) ((an.eff id).length + 1) [] (Q .normal) a σ
  | .seq x y, Q, a, σ => wpS E H L an x (fun e a σ => match e with | .normal => wpS E H L an y Q a σ | e => Q e a σ) a σ
  | .cond c x y, Q, a, σ => match (tval E.G a c).low with
    | .bool b => bcase b (wpS E H L an x Q (a.setC c true) σ) (wpS E H L an y Q (a.setC c false) σ)
    | _ => False
  | .block id c, Q, a, σ => wpS E H L an c (fun e a σ => match e with | .exit id' => if id' = id then Q .normal a σ else Q (.exit id') a σ | e => Q e a σ) a σ
  | .loop c, Q, a, σ => L (.loop c) Q a σ
  | .rangeFunc f ps x y, Q, a, σ => L (.rangeFunc f ps x y) Q a σ
  | .exit id, Q, a, σ => Q (.exit id) a σ
  | .ret, Q, a, σ => Q .ret a σ
  | _, _, _, _ => False

structure LOk (E : Env) (rd : Option Nat) (n : Nat) (an : FnAnn) (L : LHand) : Prop where
  ok : ∀ c Q a σ, codeOk n an c = true → L c Q a σ → AWp E rd n c Q a σ
  mono : ∀ c (Q Q' : Post) a σ, (∀ e a σ, Q e a σ → Q' e a σ) → L c Q a σ → L c Q' a σ

theorem lok_self (E : Env) (rd : Option Nat) (n : Nat) (an : FnAnn) : LOk E rd n an (AWp E rd n) := ⟨fun _ _ _ _ _ h => h, fun _ _ _ _ _ h k => k.mono h⟩

theorem stepS_mono (hH : HOk E H) {ann : Ann} {ops : Array Oper} {o : Oper} {K K' : Next'} (h : ∀ a σ, K a σ → K' a σ) (k : stepS E H ann ops o K a σ) : stepS E H ann ops o K' a σ :=
  stepS_rel (S := fun _ => False) hH ⟨rfl, fun _ _ => rfl⟩ (fun _ _ => id) (fun a' a1' σ' hu k => by
    have : a1' = a' := by
      have h1 : a1'.t = a'.t := funext fun t => hu.t t (.inl id)
      have h2 := hu.l
      obtain ⟨t1, l1⟩ := a1'
      obtain ⟨t0, l0⟩ := a'
      simp only at h1 h2
      rw [h1, h2]
    rw [this]; exact h _ _ k) k

theorem opsS_mono (hH : HOk E H) {id : Nat} {ops : Array Oper} {K K' : Next'} (h : ∀ a σ, K a σ → K' a σ) : ∀ (l : List Oper) (i : Nat) (a : AAct) (σ : State), opsS E H an id ops l i K a σ → opsS E H an id ops l i K' a σ
  | [], _, _, _, k => h _ _ k
  | o :: l, i, _, _, k => stepS_mono hH (fun a σ k => opsS_mono hH h l (i + 1) a σ k) k

theorem runN_mono (hH : HOk E H) {id : Nat} {ops : Array Oper} {K K' : Next'} (h : ∀ a σ, K a σ → K' a σ) : ∀ (l : List (Oper × Nat)) (a : AAct) (σ : State), runN E H an id ops l K a σ → runN E H an id ops l K' a σ
  | [], _, _, k => h _ _ k
  | (o, i) :: l, _, _, k => stepS_mono hH (fun a σ k => ⟨k.1, runN_mono hH h l a _ k.2⟩) k

theorem allE_mono {α : Type} {p q : α → Prop} (h : ∀ x, p x → q x) : ∀ l, allE p l → allE q l
  | [], k => k
  | [x], k => h _ k
  | x :: y :: r, k => ⟨h _ k.1, allE_mono h (y :: r) k.2⟩

theorem drawS_mono (hH : HOk E H) {id : Nat} {ops : Array Oper} {anc eff : List Nat} {K K' : Next'} (h : ∀ a σ, K a σ → K' a σ) : ∀ (f : Nat) (done : List Nat) (a : AAct) (σ : State), drawS E H an id ops anc eff f done K a σ → drawS E H an id ops anc eff f done K' a σ
  | 0, _, _, _, k => k
  | f + 1, done, a, σ, k => by
    unfold drawS at *
    refine runN_mono hH (fun a σ k => ⟨k.1, ?_⟩) _ _ _ k
    have k2 := k.2
    split
    · rename_i e; rw [e] at k2; exact h _ _ k2
    · rename_i e; rw [e] at k2
      exact allE_mono (fun oi k => stepS_mono hH (fun a σ k => drawS_mono hH h f _ a σ k) k) _ k2

theorem wpS_mono (hH : HOk E H) {L : LHand} (hL : ∀ c (Q Q' : Post) a σ, (∀ e a σ, Q e a σ → Q' e a σ) → L c Q a σ → L c Q' a σ) : ∀ (c : Code) (Q Q' : Post) (a : AAct) (σ : State), (∀ e a σ, Q e a σ → Q' e a σ) → wpS E H L an c Q a σ → wpS E H L an c Q' a σ
  | .skip, Q, Q', a, σ, h, k => h _ _ _ k
  | .region id ops false, Q, Q', a, σ, h, k => opsS_mono hH (h .normal) _ _ _ _ k
  | .region id ops true, Q, Q', a, σ, h, k => drawS_mono hH (h .normal) _ _ _ _ k
  | .seq x y, Q, Q', a, σ, h, k => wpS_mono hH hL x _ _ a σ (fun e a σ k => by
      cases e <;> first | exact wpS_mono hH hL y Q Q' a σ h k | exact h _ _ _ k) k
  | .cond c x y, Q, Q', a, σ, h, k => by
    simp only [wpS] at k ⊢
    split
    · rename_i b hb
      rw [hb] at k
      cases b
      · exact wpS_mono hH hL y Q Q' _ σ h k
      · exact wpS_mono hH hL x Q Q' _ σ h k
    · rename_i hb
      split at k
      · rename_i b hb'; exact absurd hb' (hb b)
      · exact k
  | .block id c, Q, Q', a, σ, h, k => wpS_mono hH hL c _ _ a σ (fun e a σ k => by
      cases e with
      | exit id' =>
        simp only at k ⊢
        split
        · rename_i e; rw [if_pos e] at k; exact h _ _ _ k
        · rename_i e; rw [if_neg e] at k; exact h _ _ _ k
      | _ => exact h _ _ _ k) k
  | .loop c, Q, Q', a, σ, h, k => hL _ _ _ _ _ h k
  | .rangeFunc f ps x y, Q, Q', a, σ, h, k => hL _ _ _ _ _ h k
  | .exit id, Q, Q', a, σ, h, k => h _ _ _ k
  | .ret, Q, Q', a, σ, h, k => h _ _ _ k
  | .scope c, Q, Q', a, σ, h, k => k.elim
  | .label l, Q, Q', a, σ, h, k => k.elim
  | .goto l, Q, Q', a, σ, h, k => k.elim
  | .refuse y, Q, Q', a, σ, h, k => k.elim

theorem wpS_sound (hH : HOk E H) (hm : E.P.follows .mixedOrders = true) {L : LHand} (hL : LOk E rd n an L) : ∀ (c : Code) (Q : Post) (a : AAct) (σ : State), codeOk n an c = true → wpS E H L an c Q a σ → AWp E rd n c Q a σ
  | .skip, Q, a, σ, _, h => awp_skip h
  | .region id ops false, Q, a, σ, hc, h => by
    simp only [codeOk, Bool.and_eq_true] at hc
    exact awp_region hH hc.1 h
  | .region id ops true, Q, a, σ, hc, h => by
    simp only [codeOk, Bool.and_eq_true, Bool.not_true, Bool.false_or] at hc
    exact awp_draw hH hm hc.1 hc.2 h
  | .seq x y, Q, a, σ, hc, h => by
    simp only [codeOk, Bool.and_eq_true] at hc
    refine awp_seq ((wpS_sound hH hm hL x _ a σ hc.1 h).mono fun e a σ k => ?_)
    cases e <;> first | exact wpS_sound hH hm hL y Q a σ hc.2 k | exact k
  | .cond c x y, Q, a, σ, hc, h => by
    simp only [codeOk, Bool.and_eq_true] at hc
    simp only [wpS] at h
    split at h
    · rename_i b hb
      refine awp_cond hb (fun e => ?_) (fun e => ?_)
      · subst e; rw [setC_same hb] at h; exact wpS_sound hH hm hL x Q _ σ hc.1 h
      · subst e; simp only [bcase] at h; rw [setC_same hb] at h; exact wpS_sound hH hm hL y Q _ σ hc.2 h
    · exact h.elim
  | .block id c, Q, a, σ, hc, h => awp_block (wpS_sound hH hm hL c _ a σ hc h)
  | .loop c, Q, a, σ, hc, h => hL.ok _ _ _ _ hc h
  | .rangeFunc f ps x y, Q, a, σ, hc, h => hL.ok _ _ _ _ hc h
  | .exit id, Q, a, σ, hc, h => awp_exit h
  | .ret, Q, a, σ, hc, h => awp_ret h
  | .scope c, Q, a, σ, hc, h => h.elim
  | .label l, Q, a, σ, hc, h => h.elim
  | .goto l, Q, a, σ, hc, h => h.elim
  | .refuse y, Q, a, σ, hc, h => h.elim

theorem acalls_of {an : FnAnn} {f : Nat} {fn : Func} {c : Code} {args : List AV} {Q : AV → State → Prop} (hm : E.P.follows .mixedOrders = true) (hf : E.P.funcs[f]? = some fn) (hb : fn.body = some c) (hc : codeOk fn.ntmps an c = true) (hn : Nat.ble args.length fn.ntmps = true)
    (h : wpS E (selfH E) (AWp E none fn.ntmps) an c (bodyQ E.P fn.results.toList Q) (initA args) σ) : ACalls E f args σ Q :=
  acalls_body hf hb (Nat.le_of_ble_eq_true hn) (wpS_sound (hok_self E) hm (lok_self E none _ an) c _ _ σ hc h)

end
end Go.V
