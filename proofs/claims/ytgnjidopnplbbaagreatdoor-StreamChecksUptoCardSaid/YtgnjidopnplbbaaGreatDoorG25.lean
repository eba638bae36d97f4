import Derived.Test.YtgnjidopnplbbaaGreatDoorG24
/- The methods of a merger: Split. -/
set_option maxRecDepth 1000000
set_option linter.unusedVariables false
set_option linter.unusedSimpArgs false
set_option linter.unusedSectionVars false
namespace Go.V
open Go Go.Proofs

section
variable {B:Nat} {w0:World} {G:Nat -> AV}
variable (hG:∀ i,NoId (G i))
include hG
end
end Go.V
/- The methods of a merger: Split. -/
namespace Go.V
open Go Go.Proofs

section
variable {B:Nat} {w0:World} {G:Nat -> AV}
variable (hG:∀ i,NoId (G i))
include hG

end
end Go.V
/- The methods of a merger: Inputs. -/
namespace Go.V
open Go Go.Proofs

def PM.inp (p:PM) (j:Nat):List Nat:=(List.range j).filter fun i => (p.at i).op
theorem Rep.frame {c c':MH} {L:ML} {p:PM} (h:Rep c L p) {l:List MRole} (hs:Same c c' l) (hl:∀ q ∈ l,q = .todo \/ q = .now \/ ∃ i,q = .x i):Rep c' L p:=by
 have hno:∀ q:MRole,(q ≠ .todo /\ q ≠ .now /\ ∀ i,q ≠ .x i) -> q ∉ l:=fun q ⟨h1,h2,h3⟩ hq => by
  rcases hl q hq with e | e | ⟨i,e⟩
  ·exact h1 e
  ·exact h2 e
  ·exact h3 i e
 exact h.upd ((hs _ (hno _ (by simp))).trans h.m) rfl rfl (hs _ (hno _ (by simp))) (h.turn.congr (hs _ (hno _ (by simp)))) rfl fun k hk => (h.inp k hk).congr (hs _ (hno _ (by simp))) (hs _ (hno _ (by simp))) (hs _ (hno _ (by simp)))
section
variable {B:Nat} {w0:World} {G:Nat -> AV}

end
end Go.V
