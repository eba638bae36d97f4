import Derived.Test.YtgnjidopnplbbaaGreatDoorG18
/- Facts of the program and of a row, each a reckoning. Printed by a program of this work (facts.py). -/
set_option maxRecDepth 100000
set_option linter.unusedVariables false
namespace Go.Proofs.YtgnjidopnplbbaaGreatDoor
open Go

theorem c3_0:(fun (P:Program) (f:FuncId) (fn:Func) (s:ChangeSpec) (c:OpenClaim) => (c.wf (OpenSpec.ofChange s):Bool)) Tryz.prog 3 Tryz.f3 Rows.streamChecksSpec Rows.streamChecksUptoRow = true:=by kernel_rfl
theorem c3_3:(fun (P:Program) (f:FuncId) (fn:Func) (s:ChangeSpec) (c:OpenClaim) => (fn.params.all (P.readableRec ·):Bool)) Tryz.prog 3 Tryz.f3 Rows.streamChecksSpec Rows.streamChecksUptoRow = true:=by kernel_rfl
theorem c3_4:(fun (P:Program) (f:FuncId) (fn:Func) (s:ChangeSpec) (c:OpenClaim) => (namedTie P c.named s.vars:Bool)) Tryz.prog 3 Tryz.f3 Rows.streamChecksSpec Rows.streamChecksUptoRow = true:=by kernel_rfl
theorem c3_5:(fun (P:Program) (f:FuncId) (fn:Func) (s:ChangeSpec) (c:OpenClaim) => ((c.stops == []):Bool)) Tryz.prog 3 Tryz.f3 Rows.streamChecksSpec Rows.streamChecksUptoRow = true:=by kernel_rfl
theorem c3_7:(fun (P:Program) (f:FuncId) (fn:Func) (s:ChangeSpec) (c:OpenClaim) => ((c.knobs == []):Bool)) Tryz.prog 3 Tryz.f3 Rows.streamChecksSpec Rows.streamChecksUptoRow = true:=by kernel_rfl
theorem c3_9:(fun (P:Program) (f:FuncId) (fn:Func) (s:ChangeSpec) (c:OpenClaim) => ((c.inPlace == P.inPlace f):Bool)) Tryz.prog 3 Tryz.f3 Rows.streamChecksSpec Rows.streamChecksUptoRow = true:=by kernel_rfl
theorem c3_10:(fun (P:Program) (f:FuncId) (fn:Func) (s:ChangeSpec) (c:OpenClaim) => ((c.unfollowed == P.unfollowed f):Bool)) Tryz.prog 3 Tryz.f3 Rows.streamChecksSpec Rows.streamChecksUptoRow = true:=by kernel_rfl
theorem c3_11:(fun (P:Program) (f:FuncId) (fn:Func) (s:ChangeSpec) (c:OpenClaim) => ((c.recurses == P.recurses f):Bool)) Tryz.prog 3 Tryz.f3 Rows.streamChecksSpec Rows.streamChecksUptoRow = true:=by kernel_rfl
theorem c3_12:(fun (P:Program) (f:FuncId) (fn:Func) (s:ChangeSpec) (c:OpenClaim) => ((c.named == P.varsNamed f):Bool)) Tryz.prog 3 Tryz.f3 Rows.streamChecksSpec Rows.streamChecksUptoRow = true:=by kernel_rfl
theorem c3_13:(fun (P:Program) (f:FuncId) (fn:Func) (s:ChangeSpec) (c:OpenClaim) => ((c.maps == (fn.params.toList ++ s.plain.varTypes P).any (P.mapsRec ·)):Bool)) Tryz.prog 3 Tryz.f3 Rows.streamChecksSpec Rows.streamChecksUptoRow = true:=by kernel_rfl
theorem c3_14:(fun (P:Program) (f:FuncId) (fn:Func) (s:ChangeSpec) (c:OpenClaim) => ((c.ifaces == (fn.params.toList ++ s.plain.varTypes P).any (P.ifacesRec ·)):Bool)) Tryz.prog 3 Tryz.f3 Rows.streamChecksSpec Rows.streamChecksUptoRow = true:=by kernel_rfl
theorem c3_15:(fun (P:Program) (f:FuncId) (fn:Func) (s:ChangeSpec) (c:OpenClaim) => ((c.mapsOut == P.mapsAmong fn.resultTypes.toList):Bool)) Tryz.prog 3 Tryz.f3 Rows.streamChecksSpec Rows.streamChecksUptoRow = true:=by kernel_rfl
theorem c3_16:(fun (P:Program) (f:FuncId) (fn:Func) (s:ChangeSpec) (c:OpenClaim) => ((c.loops == (fn.params.toList ++ s.plain.varTypes P).any (P.loopsFrom ·)):Bool)) Tryz.prog 3 Tryz.f3 Rows.streamChecksSpec Rows.streamChecksUptoRow = true:=by kernel_rfl
theorem c3_17:(fun (P:Program) (f:FuncId) (fn:Func) (s:ChangeSpec) (c:OpenClaim) => ((c.wideKeys == (fn.params.toList ++ s.plain.varTypes P ++ fn.resultTypes.toList).any (P.wideKeysFrom ·)):Bool)) Tryz.prog 3 Tryz.f3 Rows.streamChecksSpec Rows.streamChecksUptoRow = true:=by kernel_rfl
theorem c3_18:(fun (P:Program) (f:FuncId) (fn:Func) (s:ChangeSpec) (c:OpenClaim) => (s.vars.all (P.varReadable ·):Bool)) Tryz.prog 3 Tryz.f3 Rows.streamChecksSpec Rows.streamChecksUptoRow = true:=by kernel_rfl
theorem c3_19:(fun (P:Program) (f:FuncId) (fn:Func) (s:ChangeSpec) (c:OpenClaim) => (fn.resultTypes.all (fun t => P.readableRec t && decide (t < P.types.size)):Bool)) Tryz.prog 3 Tryz.f3 Rows.streamChecksSpec Rows.streamChecksUptoRow = true:=by kernel_rfl
theorem c3_20:(fun (P:Program) (f:FuncId) (fn:Func) (s:ChangeSpec) (c:OpenClaim) => ((c.ifacesOut == fn.resultTypes.toList.any (P.ifacesRec ·)):Bool)) Tryz.prog 3 Tryz.f3 Rows.streamChecksSpec Rows.streamChecksUptoRow = true:=by kernel_rfl
theorem c3_21:(fun (P:Program) (f:FuncId) (fn:Func) (s:ChangeSpec) (c:OpenClaim) => ((c.loopsOut == fn.resultTypes.toList.any (P.loopsFrom ·)):Bool)) Tryz.prog 3 Tryz.f3 Rows.streamChecksSpec Rows.streamChecksUptoRow = true:=by kernel_rfl
theorem c3_22:(fun (P:Program) (f:FuncId) (fn:Func) (s:ChangeSpec) (c:OpenClaim) => ((c.plainKeys == P.plainKeys):Bool)) Tryz.prog 3 Tryz.f3 Rows.streamChecksSpec Rows.streamChecksUptoRow = true:=by kernel_rfl
theorem c3_23:(fun (P:Program) (f:FuncId) (fn:Func) (s:ChangeSpec) (c:OpenClaim) => (c.shortTexts.isNone:Bool)) Tryz.prog 3 Tryz.f3 Rows.streamChecksSpec Rows.streamChecksUptoRow = true:=by kernel_rfl
theorem c3_26:(fun (P:Program) (f:FuncId) (fn:Func) (s:ChangeSpec) (c:OpenClaim) => ((c.lifted == P.liftsFinal):Bool)) Tryz.prog 3 Tryz.f3 Rows.streamChecksSpec Rows.streamChecksUptoRow = true:=by kernel_rfl
theorem c3_27:(fun (P:Program) (f:FuncId) (fn:Func) (s:ChangeSpec) (c:OpenClaim) => ((P.make == some c.make):Bool)) Tryz.prog 3 Tryz.f3 Rows.streamChecksSpec Rows.streamChecksUptoRow = true:=by kernel_rfl
theorem c3_28:(fun (P:Program) (f:FuncId) (fn:Func) (s:ChangeSpec) (c:OpenClaim) => ((c.kinds == (if c.domain.isEmpty then [] else fn.params.toList.map fun t => match P.underlying t with | some (.int k) => some k | _ => none)):Bool)) Tryz.prog 3 Tryz.f3 Rows.streamChecksSpec Rows.streamChecksUptoRow = true:=by kernel_rfl
theorem c3_29:(fun (P:Program) (f:FuncId) (fn:Func) (s:ChangeSpec) (c:OpenClaim) => ((c.pinned == c.pinnedBy):Bool)) Tryz.prog 3 Tryz.f3 Rows.streamChecksSpec Rows.streamChecksUptoRow = true:=by kernel_rfl
theorem c3_30:(fun (P:Program) (f:FuncId) (fn:Func) (s:ChangeSpec) (c:OpenClaim) => ((c.veiled == (fn.params.toList ++ s.plain.varTypes P ++ fn.resultTypes.toList).any (P.veiledRec ·)):Bool)) Tryz.prog 3 Tryz.f3 Rows.streamChecksSpec Rows.streamChecksUptoRow = true:=by kernel_rfl
theorem c3_31:(fun (P:Program) (f:FuncId) (fn:Func) (s:ChangeSpec) (c:OpenClaim) => (c.veiledFits P fn.params.toList (fn.params.toList ++ s.plain.varTypes P ++ fn.resultTypes.toList):Bool)) Tryz.prog 3 Tryz.f3 Rows.streamChecksSpec Rows.streamChecksUptoRow = true:=by kernel_rfl
theorem c3_joined:joinedFacts Tryz.prog 3 Tryz.f3 Rows.streamChecksSpec Rows.streamChecksUptoRow = true :=
 joined_mk _ _ _ _ _ c3_0 sh1 sh2 c3_3 c3_4 c3_5 sh6 c3_7 sh8 c3_9 c3_10 c3_11 c3_12 c3_13 c3_14 c3_15 c3_16 c3_17 c3_18 c3_19 c3_20 c3_21 c3_22 c3_23 sh24 sh25 c3_26 c3_27 c3_28 c3_29 c3_30 c3_31
theorem c3_named:Tryz.prog.funcNamed Rows.streamChecksUptoRow.func = some 3:=by kernel_rfl
theorem c3_func:Tryz.prog.funcs[3]? = some Tryz.f3:=by kernel_rfl
theorem c3_inst:Tryz.f3.isInstance Tryz.prog Rows.streamChecksUptoRow.origin Rows.streamChecksUptoRow.targs:=of_decide_eq_true (by kernel_rfl)
theorem c3_wrap:Tryz.f3.isWrapper Tryz.prog Rows.streamChecksUptoRow.wrapper Rows.streamChecksUptoRow.mainSum:=by
 unfold Func.isWrapper; rw [if_neg (of_decide_eq_false (by kernel_rfl))]; exact ⟨rfl,rfl⟩
theorem c3_goes:false = Rows.streamChecksUptoRow.goesBy Tryz.prog:=by kernel_rfl
theorem c3_text:Rows.streamChecksUptoRow.wfByText (Rows.OpenSpec.upto Rows.streamChecksSpec) = true:=by kernel_rfl
theorem c3_inits:Tryz.prog.inits.idxOf? 3 = none:=by kernel_rfl
theorem c3_res:Tryz.f3.resultTypes = #[4]:=by kernel_rfl
end Go.Proofs.YtgnjidopnplbbaaGreatDoor
