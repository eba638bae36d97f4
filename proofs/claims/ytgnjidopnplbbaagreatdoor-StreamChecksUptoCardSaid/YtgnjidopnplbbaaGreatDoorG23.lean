import Derived.Test.YtgnjidopnplbbaaGreatDoorG22
/- Conditions: the methods of a merger. -/
set_option maxRecDepth 1000000
set_option linter.unusedVariables false
namespace Go.V
open Go Go.Proofs

end Go.V
/- The methods of a merger: Close, Next. -/
set_option linter.unusedSimpArgs false
set_option linter.unusedSectionVars false
namespace Go.V
open Go Go.Proofs

section
variable {B:Nat} {w0:World} {G:Nat -> AV}
variable (hG:∀ i,NoId (G i))
include hG

end

section
variable {B:Nat} {w0:World} {G:Nat -> AV}
variable (hG:∀ i,NoId (G i))
include hG
end
end Go.V
/- The methods of a merger: Put. -/
namespace Go.V
open Go Go.Proofs

def XT (c:MH):Prop:=∀ i id o,c (.x i) = some (id,o) -> isTok o = false
theorem XT.frame {c c':MH} (h:XT c) (hf:Frame' c c'):XT c':=fun i id o hx => h i id o (by rw [<-hf i]; exact hx)
section
variable {B:Nat} {w0:World} {G:Nat -> AV}
variable (hG:∀ i,NoId (G i))
include hG
end
end Go.V
