import Derived.Test.YtgnjidopnplbbaaGreatDoorG25
/- Conditions: what a law does with a merger. -/
set_option maxRecDepth 1000000
set_option linter.unusedVariables false
namespace Go.V
open Go Go.Proofs

structure Ev where
 k:Int
 i:Int
 n:Int
 t:T
def Ev.v (e:Ev):AV:=.agg [.int .i64 e.k,.int .i64 e.i,.int .i64 e.n,.int .i64 e.t.k,.int .i64 e.t.n,.str e.t.s,.slice 4 (tcellL e.t.l) .any]
def RM.do (m:RM) (e:Ev):RM × List (Nat × T) × Int :=
 if e.k = 1 then ((m.put e.i e.t).1,[],(m.put e.i e.t).2)
 else if e.k = 2 then ((m.close e.i).1,[],(m.close e.i).2)
 else if e.k = 3 then ((m.split e.i e.n).1,[],(m.split e.i e.n).2.2)
 else (m.next.1,m.next.2.toList,0)
end Go.V
/- Conditions: the law StreamFair. -/
namespace Go.V
open Go Go.Proofs

end Go.V
/- What a law does with a merger; the law StreamFair. -/
set_option linter.unusedSimpArgs false
set_option linter.unusedSectionVars false
namespace Go.V
open Go Go.Proofs

section
variable {B:Nat} {w0:World} {G:Nat -> AV}
variable (hG:∀ i,NoId (G i))
include hG
end

section
variable {B:Nat} {w0:World}
end
end Go.V
