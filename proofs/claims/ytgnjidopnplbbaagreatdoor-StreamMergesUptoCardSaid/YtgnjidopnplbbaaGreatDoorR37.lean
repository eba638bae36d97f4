import Derived.Test.YtgnjidopnplbbaaGreatDoorR18
/- Facts of the program and of a row, each a reckoning. Printed by a program of this work (facts.py). -/
set_option maxRecDepth 100000
set_option linter.unusedVariables false
namespace Go.Proofs.YtgnjidopnplbbaaGreatDoor
open Go

theorem c15_0:(fun (P:Program) (f:FuncId) (fn:Func) (s:ChangeSpec) (c:OpenClaim) => (c.wf (OpenSpec.ofChange s):Bool)) Tryz.prog 15 Tryz.f15 Rows.streamMergesSpec Rows.streamMergesUptoRow = true:=by kernel_rfl
theorem c15_3:(fun (P:Program) (f:FuncId) (fn:Func) (s:ChangeSpec) (c:OpenClaim) => (fn.params.all (P.readableRec ·):Bool)) Tryz.prog 15 Tryz.f15 Rows.streamMergesSpec Rows.streamMergesUptoRow = true:=by kernel_rfl
theorem c15_4:(fun (P:Program) (f:FuncId) (fn:Func) (s:ChangeSpec) (c:OpenClaim) => (namedTie P c.named s.vars:Bool)) Tryz.prog 15 Tryz.f15 Rows.streamMergesSpec Rows.streamMergesUptoRow = true:=by kernel_rfl
theorem c15_5:(fun (P:Program) (f:FuncId) (fn:Func) (s:ChangeSpec) (c:OpenClaim) => ((c.stops == []):Bool)) Tryz.prog 15 Tryz.f15 Rows.streamMergesSpec Rows.streamMergesUptoRow = true:=by kernel_rfl
theorem c15_7:(fun (P:Program) (f:FuncId) (fn:Func) (s:ChangeSpec) (c:OpenClaim) => ((c.knobs == []):Bool)) Tryz.prog 15 Tryz.f15 Rows.streamMergesSpec Rows.streamMergesUptoRow = true:=by kernel_rfl
theorem c15_9:(fun (P:Program) (f:FuncId) (fn:Func) (s:ChangeSpec) (c:OpenClaim) => ((c.inPlace == P.inPlace f):Bool)) Tryz.prog 15 Tryz.f15 Rows.streamMergesSpec Rows.streamMergesUptoRow = true:=by kernel_rfl
theorem c15_10:(fun (P:Program) (f:FuncId) (fn:Func) (s:ChangeSpec) (c:OpenClaim) => ((c.unfollowed == P.unfollowed f):Bool)) Tryz.prog 15 Tryz.f15 Rows.streamMergesSpec Rows.streamMergesUptoRow = true:=by kernel_rfl
theorem c15_11:(fun (P:Program) (f:FuncId) (fn:Func) (s:ChangeSpec) (c:OpenClaim) => ((c.recurses == P.recurses f):Bool)) Tryz.prog 15 Tryz.f15 Rows.streamMergesSpec Rows.streamMergesUptoRow = true:=by kernel_rfl
theorem c15_12:(fun (P:Program) (f:FuncId) (fn:Func) (s:ChangeSpec) (c:OpenClaim) => ((c.named == P.varsNamed f):Bool)) Tryz.prog 15 Tryz.f15 Rows.streamMergesSpec Rows.streamMergesUptoRow = true:=by kernel_rfl
theorem c15_13:(fun (P:Program) (f:FuncId) (fn:Func) (s:ChangeSpec) (c:OpenClaim) => ((c.maps == (fn.params.toList ++ s.plain.varTypes P).any (P.mapsRec ·)):Bool)) Tryz.prog 15 Tryz.f15 Rows.streamMergesSpec Rows.streamMergesUptoRow = true:=by kernel_rfl
theorem c15_14:(fun (P:Program) (f:FuncId) (fn:Func) (s:ChangeSpec) (c:OpenClaim) => ((c.ifaces == (fn.params.toList ++ s.plain.varTypes P).any (P.ifacesRec ·)):Bool)) Tryz.prog 15 Tryz.f15 Rows.streamMergesSpec Rows.streamMergesUptoRow = true:=by kernel_rfl
theorem c15_15:(fun (P:Program) (f:FuncId) (fn:Func) (s:ChangeSpec) (c:OpenClaim) => ((c.mapsOut == P.mapsAmong fn.resultTypes.toList):Bool)) Tryz.prog 15 Tryz.f15 Rows.streamMergesSpec Rows.streamMergesUptoRow = true:=by kernel_rfl
theorem c15_16:(fun (P:Program) (f:FuncId) (fn:Func) (s:ChangeSpec) (c:OpenClaim) => ((c.loops == (fn.params.toList ++ s.plain.varTypes P).any (P.loopsFrom ·)):Bool)) Tryz.prog 15 Tryz.f15 Rows.streamMergesSpec Rows.streamMergesUptoRow = true:=by kernel_rfl
theorem c15_17:(fun (P:Program) (f:FuncId) (fn:Func) (s:ChangeSpec) (c:OpenClaim) => ((c.wideKeys == (fn.params.toList ++ s.plain.varTypes P ++ fn.resultTypes.toList).any (P.wideKeysFrom ·)):Bool)) Tryz.prog 15 Tryz.f15 Rows.streamMergesSpec Rows.streamMergesUptoRow = true:=by kernel_rfl
theorem c15_18:(fun (P:Program) (f:FuncId) (fn:Func) (s:ChangeSpec) (c:OpenClaim) => (s.vars.all (P.varReadable ·):Bool)) Tryz.prog 15 Tryz.f15 Rows.streamMergesSpec Rows.streamMergesUptoRow = true:=by kernel_rfl
theorem c15_19:(fun (P:Program) (f:FuncId) (fn:Func) (s:ChangeSpec) (c:OpenClaim) => (fn.resultTypes.all (fun t => P.readableRec t && decide (t < P.types.size)):Bool)) Tryz.prog 15 Tryz.f15 Rows.streamMergesSpec Rows.streamMergesUptoRow = true:=by kernel_rfl
theorem c15_20:(fun (P:Program) (f:FuncId) (fn:Func) (s:ChangeSpec) (c:OpenClaim) => ((c.ifacesOut == fn.resultTypes.toList.any (P.ifacesRec ·)):Bool)) Tryz.prog 15 Tryz.f15 Rows.streamMergesSpec Rows.streamMergesUptoRow = true:=by kernel_rfl
theorem c15_21:(fun (P:Program) (f:FuncId) (fn:Func) (s:ChangeSpec) (c:OpenClaim) => ((c.loopsOut == fn.resultTypes.toList.any (P.loopsFrom ·)):Bool)) Tryz.prog 15 Tryz.f15 Rows.streamMergesSpec Rows.streamMergesUptoRow = true:=by kernel_rfl
theorem c15_22:(fun (P:Program) (f:FuncId) (fn:Func) (s:ChangeSpec) (c:OpenClaim) => ((c.plainKeys == P.plainKeys):Bool)) Tryz.prog 15 Tryz.f15 Rows.streamMergesSpec Rows.streamMergesUptoRow = true:=by kernel_rfl
theorem c15_23:(fun (P:Program) (f:FuncId) (fn:Func) (s:ChangeSpec) (c:OpenClaim) => (c.shortTexts.isNone:Bool)) Tryz.prog 15 Tryz.f15 Rows.streamMergesSpec Rows.streamMergesUptoRow = true:=by kernel_rfl
theorem c15_26:(fun (P:Program) (f:FuncId) (fn:Func) (s:ChangeSpec) (c:OpenClaim) => ((c.lifted == P.liftsFinal):Bool)) Tryz.prog 15 Tryz.f15 Rows.streamMergesSpec Rows.streamMergesUptoRow = true:=by kernel_rfl
theorem c15_27:(fun (P:Program) (f:FuncId) (fn:Func) (s:ChangeSpec) (c:OpenClaim) => ((P.make == some c.make):Bool)) Tryz.prog 15 Tryz.f15 Rows.streamMergesSpec Rows.streamMergesUptoRow = true:=by kernel_rfl
theorem c15_28:(fun (P:Program) (f:FuncId) (fn:Func) (s:ChangeSpec) (c:OpenClaim) => ((c.kinds == (if c.domain.isEmpty then [] else fn.params.toList.map fun t => match P.underlying t with | some (.int k) => some k | _ => none)):Bool)) Tryz.prog 15 Tryz.f15 Rows.streamMergesSpec Rows.streamMergesUptoRow = true:=by kernel_rfl
theorem c15_29:(fun (P:Program) (f:FuncId) (fn:Func) (s:ChangeSpec) (c:OpenClaim) => ((c.pinned == c.pinnedBy):Bool)) Tryz.prog 15 Tryz.f15 Rows.streamMergesSpec Rows.streamMergesUptoRow = true:=by kernel_rfl
theorem c15_30:(fun (P:Program) (f:FuncId) (fn:Func) (s:ChangeSpec) (c:OpenClaim) => ((c.veiled == (fn.params.toList ++ s.plain.varTypes P ++ fn.resultTypes.toList).any (P.veiledRec ·)):Bool)) Tryz.prog 15 Tryz.f15 Rows.streamMergesSpec Rows.streamMergesUptoRow = true:=by kernel_rfl
theorem c15_31:(fun (P:Program) (f:FuncId) (fn:Func) (s:ChangeSpec) (c:OpenClaim) => (c.veiledFits P fn.params.toList (fn.params.toList ++ s.plain.varTypes P ++ fn.resultTypes.toList):Bool)) Tryz.prog 15 Tryz.f15 Rows.streamMergesSpec Rows.streamMergesUptoRow = true:=by kernel_rfl
theorem c15_joined:joinedFacts Tryz.prog 15 Tryz.f15 Rows.streamMergesSpec Rows.streamMergesUptoRow = true :=
 joined_mk _ _ _ _ _ c15_0 sh1 sh2 c15_3 c15_4 c15_5 sh6 c15_7 sh8 c15_9 c15_10 c15_11 c15_12 c15_13 c15_14 c15_15 c15_16 c15_17 c15_18 c15_19 c15_20 c15_21 c15_22 c15_23 sh24 sh25 c15_26 c15_27 c15_28 c15_29 c15_30 c15_31
theorem c15_named:Tryz.prog.funcNamed Rows.streamMergesUptoRow.func = some 15:=by kernel_rfl
theorem c15_func:Tryz.prog.funcs[15]? = some Tryz.f15:=by kernel_rfl
theorem c15_inst:Tryz.f15.isInstance Tryz.prog Rows.streamMergesUptoRow.origin Rows.streamMergesUptoRow.targs:=of_decide_eq_true (by kernel_rfl)
theorem c15_wrap:Tryz.f15.isWrapper Tryz.prog Rows.streamMergesUptoRow.wrapper Rows.streamMergesUptoRow.mainSum:=by
 unfold Func.isWrapper; rw [if_neg (of_decide_eq_false (by kernel_rfl))]; exact ⟨rfl,rfl⟩
theorem c15_goes:false = Rows.streamMergesUptoRow.goesBy Tryz.prog:=by kernel_rfl
theorem c15_text:Rows.streamMergesUptoRow.wfByText (Rows.OpenSpec.upto Rows.streamMergesSpec) = true:=by kernel_rfl
theorem c15_inits:Tryz.prog.inits.idxOf? 15 = none:=by kernel_rfl
theorem c15_res:Tryz.f15.resultTypes = #[4]:=by kernel_rfl
end Go.Proofs.YtgnjidopnplbbaaGreatDoor
