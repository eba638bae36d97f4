import Derived.Test.YtgnjidopnplbbaaGreatDoorN17
/- Facts of the program and of a row, each a reckoning. Printed by a program of this work (facts.py). -/
set_option maxRecDepth 100000
set_option linter.unusedVariables false
namespace Go.Proofs.YtgnjidopnplbbaaGreatDoor
open Go

theorem c10_0:(fun (P:Program) (f:FuncId) (fn:Func) (s:ChangeSpec) (c:OpenClaim) => (c.wf (OpenSpec.ofChange s):Bool)) Tryz.prog 10 Tryz.f10 Rows.streamOnceSpec Rows.streamOnceRow = true:=by kernel_rfl
theorem c10_3:(fun (P:Program) (f:FuncId) (fn:Func) (s:ChangeSpec) (c:OpenClaim) => (fn.params.all (P.readableRec ·):Bool)) Tryz.prog 10 Tryz.f10 Rows.streamOnceSpec Rows.streamOnceRow = true:=by kernel_rfl
theorem c10_4:(fun (P:Program) (f:FuncId) (fn:Func) (s:ChangeSpec) (c:OpenClaim) => (namedTie P c.named s.vars:Bool)) Tryz.prog 10 Tryz.f10 Rows.streamOnceSpec Rows.streamOnceRow = true:=by kernel_rfl
theorem c10_5:(fun (P:Program) (f:FuncId) (fn:Func) (s:ChangeSpec) (c:OpenClaim) => ((c.stops == []):Bool)) Tryz.prog 10 Tryz.f10 Rows.streamOnceSpec Rows.streamOnceRow = true:=by kernel_rfl
theorem c10_7:(fun (P:Program) (f:FuncId) (fn:Func) (s:ChangeSpec) (c:OpenClaim) => ((c.knobs == []):Bool)) Tryz.prog 10 Tryz.f10 Rows.streamOnceSpec Rows.streamOnceRow = true:=by kernel_rfl
theorem c10_9:(fun (P:Program) (f:FuncId) (fn:Func) (s:ChangeSpec) (c:OpenClaim) => ((c.inPlace == P.inPlace f):Bool)) Tryz.prog 10 Tryz.f10 Rows.streamOnceSpec Rows.streamOnceRow = true:=by kernel_rfl
theorem c10_10:(fun (P:Program) (f:FuncId) (fn:Func) (s:ChangeSpec) (c:OpenClaim) => ((c.unfollowed == P.unfollowed f):Bool)) Tryz.prog 10 Tryz.f10 Rows.streamOnceSpec Rows.streamOnceRow = true:=by kernel_rfl
theorem c10_11:(fun (P:Program) (f:FuncId) (fn:Func) (s:ChangeSpec) (c:OpenClaim) => ((c.recurses == P.recurses f):Bool)) Tryz.prog 10 Tryz.f10 Rows.streamOnceSpec Rows.streamOnceRow = true:=by kernel_rfl
theorem c10_12:(fun (P:Program) (f:FuncId) (fn:Func) (s:ChangeSpec) (c:OpenClaim) => ((c.named == P.varsNamed f):Bool)) Tryz.prog 10 Tryz.f10 Rows.streamOnceSpec Rows.streamOnceRow = true:=by kernel_rfl
theorem c10_13:(fun (P:Program) (f:FuncId) (fn:Func) (s:ChangeSpec) (c:OpenClaim) => ((c.maps == (fn.params.toList ++ s.plain.varTypes P).any (P.mapsRec ·)):Bool)) Tryz.prog 10 Tryz.f10 Rows.streamOnceSpec Rows.streamOnceRow = true:=by kernel_rfl
theorem c10_14:(fun (P:Program) (f:FuncId) (fn:Func) (s:ChangeSpec) (c:OpenClaim) => ((c.ifaces == (fn.params.toList ++ s.plain.varTypes P).any (P.ifacesRec ·)):Bool)) Tryz.prog 10 Tryz.f10 Rows.streamOnceSpec Rows.streamOnceRow = true:=by kernel_rfl
theorem c10_15:(fun (P:Program) (f:FuncId) (fn:Func) (s:ChangeSpec) (c:OpenClaim) => ((c.mapsOut == P.mapsAmong fn.resultTypes.toList):Bool)) Tryz.prog 10 Tryz.f10 Rows.streamOnceSpec Rows.streamOnceRow = true:=by kernel_rfl
theorem c10_16:(fun (P:Program) (f:FuncId) (fn:Func) (s:ChangeSpec) (c:OpenClaim) => ((c.loops == (fn.params.toList ++ s.plain.varTypes P).any (P.loopsFrom ·)):Bool)) Tryz.prog 10 Tryz.f10 Rows.streamOnceSpec Rows.streamOnceRow = true:=by kernel_rfl
theorem c10_17:(fun (P:Program) (f:FuncId) (fn:Func) (s:ChangeSpec) (c:OpenClaim) => ((c.wideKeys == (fn.params.toList ++ s.plain.varTypes P ++ fn.resultTypes.toList).any (P.wideKeysFrom ·)):Bool)) Tryz.prog 10 Tryz.f10 Rows.streamOnceSpec Rows.streamOnceRow = true:=by kernel_rfl
theorem c10_18:(fun (P:Program) (f:FuncId) (fn:Func) (s:ChangeSpec) (c:OpenClaim) => (s.vars.all (P.varReadable ·):Bool)) Tryz.prog 10 Tryz.f10 Rows.streamOnceSpec Rows.streamOnceRow = true:=by kernel_rfl
theorem c10_19:(fun (P:Program) (f:FuncId) (fn:Func) (s:ChangeSpec) (c:OpenClaim) => (fn.resultTypes.all (fun t => P.readableRec t && decide (t < P.types.size)):Bool)) Tryz.prog 10 Tryz.f10 Rows.streamOnceSpec Rows.streamOnceRow = true:=by kernel_rfl
theorem c10_20:(fun (P:Program) (f:FuncId) (fn:Func) (s:ChangeSpec) (c:OpenClaim) => ((c.ifacesOut == fn.resultTypes.toList.any (P.ifacesRec ·)):Bool)) Tryz.prog 10 Tryz.f10 Rows.streamOnceSpec Rows.streamOnceRow = true:=by kernel_rfl
theorem c10_21:(fun (P:Program) (f:FuncId) (fn:Func) (s:ChangeSpec) (c:OpenClaim) => ((c.loopsOut == fn.resultTypes.toList.any (P.loopsFrom ·)):Bool)) Tryz.prog 10 Tryz.f10 Rows.streamOnceSpec Rows.streamOnceRow = true:=by kernel_rfl
theorem c10_22:(fun (P:Program) (f:FuncId) (fn:Func) (s:ChangeSpec) (c:OpenClaim) => ((c.plainKeys == P.plainKeys):Bool)) Tryz.prog 10 Tryz.f10 Rows.streamOnceSpec Rows.streamOnceRow = true:=by kernel_rfl
theorem c10_23:(fun (P:Program) (f:FuncId) (fn:Func) (s:ChangeSpec) (c:OpenClaim) => (c.shortTexts.isNone:Bool)) Tryz.prog 10 Tryz.f10 Rows.streamOnceSpec Rows.streamOnceRow = true:=by kernel_rfl
theorem c10_26:(fun (P:Program) (f:FuncId) (fn:Func) (s:ChangeSpec) (c:OpenClaim) => ((c.lifted == P.liftsFinal):Bool)) Tryz.prog 10 Tryz.f10 Rows.streamOnceSpec Rows.streamOnceRow = true:=by kernel_rfl
theorem c10_27:(fun (P:Program) (f:FuncId) (fn:Func) (s:ChangeSpec) (c:OpenClaim) => ((P.make == some c.make):Bool)) Tryz.prog 10 Tryz.f10 Rows.streamOnceSpec Rows.streamOnceRow = true:=by kernel_rfl
theorem c10_28:(fun (P:Program) (f:FuncId) (fn:Func) (s:ChangeSpec) (c:OpenClaim) => ((c.kinds == (if c.domain.isEmpty then [] else fn.params.toList.map fun t => match P.underlying t with | some (.int k) => some k | _ => none)):Bool)) Tryz.prog 10 Tryz.f10 Rows.streamOnceSpec Rows.streamOnceRow = true:=by kernel_rfl
theorem c10_29:(fun (P:Program) (f:FuncId) (fn:Func) (s:ChangeSpec) (c:OpenClaim) => ((c.pinned == c.pinnedBy):Bool)) Tryz.prog 10 Tryz.f10 Rows.streamOnceSpec Rows.streamOnceRow = true:=by kernel_rfl
theorem c10_30:(fun (P:Program) (f:FuncId) (fn:Func) (s:ChangeSpec) (c:OpenClaim) => ((c.veiled == (fn.params.toList ++ s.plain.varTypes P ++ fn.resultTypes.toList).any (P.veiledRec ·)):Bool)) Tryz.prog 10 Tryz.f10 Rows.streamOnceSpec Rows.streamOnceRow = true:=by kernel_rfl
theorem c10_31:(fun (P:Program) (f:FuncId) (fn:Func) (s:ChangeSpec) (c:OpenClaim) => (c.veiledFits P fn.params.toList (fn.params.toList ++ s.plain.varTypes P ++ fn.resultTypes.toList):Bool)) Tryz.prog 10 Tryz.f10 Rows.streamOnceSpec Rows.streamOnceRow = true:=by kernel_rfl
theorem c10_joined:joinedFacts Tryz.prog 10 Tryz.f10 Rows.streamOnceSpec Rows.streamOnceRow = true :=
 joined_mk _ _ _ _ _ c10_0 sh1 sh2 c10_3 c10_4 c10_5 sh6 c10_7 sh8 c10_9 c10_10 c10_11 c10_12 c10_13 c10_14 c10_15 c10_16 c10_17 c10_18 c10_19 c10_20 c10_21 c10_22 c10_23 sh24 sh25 c10_26 c10_27 c10_28 c10_29 c10_30 c10_31
theorem c10_named:Tryz.prog.funcNamed Rows.streamOnceRow.func = some 10:=by kernel_rfl
theorem c10_func:Tryz.prog.funcs[10]? = some Tryz.f10:=by kernel_rfl
theorem c10_inst:Tryz.f10.isInstance Tryz.prog Rows.streamOnceRow.origin Rows.streamOnceRow.targs:=of_decide_eq_true (by kernel_rfl)
theorem c10_wrap:Tryz.f10.isWrapper Tryz.prog Rows.streamOnceRow.wrapper Rows.streamOnceRow.mainSum:=by
 unfold Func.isWrapper; rw [if_neg (of_decide_eq_false (by kernel_rfl))]; exact ⟨rfl,rfl⟩
theorem c10_goes:false = Rows.streamOnceRow.goesBy Tryz.prog:=by kernel_rfl
theorem c10_text:Rows.streamOnceRow.wfByText (OpenSpec.ofChange Rows.streamOnceSpec) = true:=by kernel_rfl
theorem c10_inits:Tryz.prog.inits.idxOf? 10 = none:=by kernel_rfl
theorem c10_res:Tryz.f10.resultTypes = #[4]:=by kernel_rfl
end Go.Proofs.YtgnjidopnplbbaaGreatDoor
