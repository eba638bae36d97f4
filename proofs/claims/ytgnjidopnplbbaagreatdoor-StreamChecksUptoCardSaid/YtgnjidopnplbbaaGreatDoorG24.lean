import Derived.Test.YtgnjidopnplbbaaGreatDoorG23
/- Conditions: New, Split, Turn, Inputs of a merger. -/
set_option maxRecDepth 1000000
set_option linter.unusedVariables false
namespace Go.V
open Go Go.Proofs

/- New -/
end Go.V
/- Conditions: Split, Inputs of a merger. -/
namespace Go.V
open Go Go.Proofs

/- Inputs -/
end Go.V
/- The methods of a merger: Turn, New, Work, Done. -/
set_option linter.unusedSimpArgs false
set_option linter.unusedSectionVars false
namespace Go.V
open Go Go.Proofs

theorem ACalls.post_wk {E:Env} {f:Nat} {args:List AV} {σ:State} {Q:AV -> State -> Prop} (h:ACalls E f args σ (fun v σ' => ∃ v' σ'',Wk v v' /\ σ''.Le σ' /\ Q v' σ'')):ACalls E f args σ Q :=
 ⟨fun g w vs hG hS hv => (h.run g w vs hG hS hv).mono fun e w' k => by
  cases e with
  | returned v => obtain ⟨g',σ',a,h1,h2,h3,v',σ'',hw,hl,hq⟩:=k; exact ⟨g',σ'',v',h1,h2.forget hl,hw _ _ h3,hq⟩
  | outgrown => exact k
  | panicked c => exact k⟩
theorem At.skip {c:MH} {σ:State} (h:At c σ) (o:AObj):At c (σ.new o) where
 at_ r id x hr:=by
  have:=h.at_ r id x hr
  refine ⟨Nat.lt_succ_of_lt this.1,?_⟩
  show (if id = σ.next then o else σ.objs id) = x
  rw [if_neg (by omega)]; exact this.2
 inj:=h.inj
section
variable {B:Nat} {w0:World} {G:Nat -> AV}

end
end Go.V
