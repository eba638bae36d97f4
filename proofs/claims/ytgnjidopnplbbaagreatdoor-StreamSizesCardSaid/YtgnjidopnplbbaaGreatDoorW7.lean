/- The W-layer, part 7: loops over states that are not told whole. -/
import Derived.Test.YtgnjidopnplbbaaGreatDoorW6
set_option linter.unusedSimpArgs false
set_option linter.unusedVariables false
namespace Go.V
open Go.RowKit

structure LS (X : Type) where
  F : X → List (Nat × TV)
  FL : X → List (Nat × List AV)
  S : X → State
  I : X → Prop
  μ : X → Nat
  Ex : X → Exit → AAct → State → Prop

def LS.post {X : Type} (l : LS X) (x : X) : Post := fun e a σ => match e with
  | .normal => ∃ x', (l.I x' ∧ l.μ x' < l.μ x) ∧ atF a (l.F x') (l.FL x') ((l.S x').Le σ)
  | e => l.Ex x e a σ

section
variable {E : Env} {rd : Option Nat} {n : Nat} {σ : State} {a : AAct}

theorem awp_loopS {X : Type} (l : LS X) {c : Code} {Q : Post} (hb : ∀ x, l.I x → AWp E rd n c (l.post x) (frm (l.F x) (l.FL x)) (l.S x))
    (hx : ∀ x, l.I x → ∀ e a σ, e ≠ .normal → l.Ex x e a σ → ∃ a' σ', a'.Wk a ∧ σ'.Le σ ∧ Q e a' σ')
    {x0 : X} (h0 : l.I x0) (ha : atF a (l.F x0) (l.FL x0) ((l.S x0).Le σ)) : AWp E rd n (.loop c) Q a σ := by
  refine .post_wk (awp_loop (fun k a σ => ∃ x, l.I x ∧ l.μ x = k ∧ (frm (l.F x) (l.FL x)).Wk a ∧ (l.S x).Le σ) (m := l.μ x0) ⟨x0, h0, rfl, (atF_ok ha).1, (atF_ok ha).2⟩ ?_)
  rintro k a σ ⟨x, hI, rfl, h1, h2⟩
  refine .pre_wk h1 h2 ((hb x hI).mono fun e a σ k => ?_)
  cases e with
  | normal =>
    obtain ⟨x', ⟨h3, h4⟩, h5⟩ := k
    exact ⟨l.μ x', h4, x', h3, rfl, (atF_ok h5).1, (atF_ok h5).2⟩
  | _ => exact hx x hI _ _ _ (by simp) k
end
end Go.V
