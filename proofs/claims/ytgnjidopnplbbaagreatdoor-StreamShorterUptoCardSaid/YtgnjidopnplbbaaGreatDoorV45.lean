import Derived.Test.YtgnjidopnplbbaaGreatDoorV18
/- Facts of the program and of a row, each a reckoning. Printed by a program of this work (facts.py). -/
set_option maxRecDepth 100000
set_option linter.unusedVariables false
namespace Go.Proofs.YtgnjidopnplbbaaGreatDoor
open Go

theorem c5_0:(fun (P:Program) (f:FuncId) (fn:Func) (s:ChangeSpec) (c:OpenClaim) => (c.wf (OpenSpec.ofChange s):Bool)) Tryz.prog 5 Tryz.f5 Rows.streamShorterSpec Rows.streamShorterUptoRow = true:=by kernel_rfl
theorem c5_3:(fun (P:Program) (f:FuncId) (fn:Func) (s:ChangeSpec) (c:OpenClaim) => (fn.params.all (P.readableRec ·):Bool)) Tryz.prog 5 Tryz.f5 Rows.streamShorterSpec Rows.streamShorterUptoRow = true:=by kernel_rfl
theorem c5_4:(fun (P:Program) (f:FuncId) (fn:Func) (s:ChangeSpec) (c:OpenClaim) => (namedTie P c.named s.vars:Bool)) Tryz.prog 5 Tryz.f5 Rows.streamShorterSpec Rows.streamShorterUptoRow = true:=by kernel_rfl
theorem c5_5:(fun (P:Program) (f:FuncId) (fn:Func) (s:ChangeSpec) (c:OpenClaim) => ((c.stops == []):Bool)) Tryz.prog 5 Tryz.f5 Rows.streamShorterSpec Rows.streamShorterUptoRow = true:=by kernel_rfl
theorem c5_7:(fun (P:Program) (f:FuncId) (fn:Func) (s:ChangeSpec) (c:OpenClaim) => ((c.knobs == []):Bool)) Tryz.prog 5 Tryz.f5 Rows.streamShorterSpec Rows.streamShorterUptoRow = true:=by kernel_rfl
theorem c5_9:(fun (P:Program) (f:FuncId) (fn:Func) (s:ChangeSpec) (c:OpenClaim) => ((c.inPlace == P.inPlace f):Bool)) Tryz.prog 5 Tryz.f5 Rows.streamShorterSpec Rows.streamShorterUptoRow = true:=by kernel_rfl
theorem c5_10:(fun (P:Program) (f:FuncId) (fn:Func) (s:ChangeSpec) (c:OpenClaim) => ((c.unfollowed == P.unfollowed f):Bool)) Tryz.prog 5 Tryz.f5 Rows.streamShorterSpec Rows.streamShorterUptoRow = true:=by kernel_rfl
theorem c5_11:(fun (P:Program) (f:FuncId) (fn:Func) (s:ChangeSpec) (c:OpenClaim) => ((c.recurses == P.recurses f):Bool)) Tryz.prog 5 Tryz.f5 Rows.streamShorterSpec Rows.streamShorterUptoRow = true:=by kernel_rfl
theorem c5_12:(fun (P:Program) (f:FuncId) (fn:Func) (s:ChangeSpec) (c:OpenClaim) => ((c.named == P.varsNamed f):Bool)) Tryz.prog 5 Tryz.f5 Rows.streamShorterSpec Rows.streamShorterUptoRow = true:=by kernel_rfl
theorem c5_13:(fun (P:Program) (f:FuncId) (fn:Func) (s:ChangeSpec) (c:OpenClaim) => ((c.maps == (fn.params.toList ++ s.plain.varTypes P).any (P.mapsRec ·)):Bool)) Tryz.prog 5 Tryz.f5 Rows.streamShorterSpec Rows.streamShorterUptoRow = true:=by kernel_rfl
theorem c5_14:(fun (P:Program) (f:FuncId) (fn:Func) (s:ChangeSpec) (c:OpenClaim) => ((c.ifaces == (fn.params.toList ++ s.plain.varTypes P).any (P.ifacesRec ·)):Bool)) Tryz.prog 5 Tryz.f5 Rows.streamShorterSpec Rows.streamShorterUptoRow = true:=by kernel_rfl
theorem c5_15:(fun (P:Program) (f:FuncId) (fn:Func) (s:ChangeSpec) (c:OpenClaim) => ((c.mapsOut == P.mapsAmong fn.resultTypes.toList):Bool)) Tryz.prog 5 Tryz.f5 Rows.streamShorterSpec Rows.streamShorterUptoRow = true:=by kernel_rfl
theorem c5_16:(fun (P:Program) (f:FuncId) (fn:Func) (s:ChangeSpec) (c:OpenClaim) => ((c.loops == (fn.params.toList ++ s.plain.varTypes P).any (P.loopsFrom ·)):Bool)) Tryz.prog 5 Tryz.f5 Rows.streamShorterSpec Rows.streamShorterUptoRow = true:=by kernel_rfl
theorem c5_17:(fun (P:Program) (f:FuncId) (fn:Func) (s:ChangeSpec) (c:OpenClaim) => ((c.wideKeys == (fn.params.toList ++ s.plain.varTypes P ++ fn.resultTypes.toList).any (P.wideKeysFrom ·)):Bool)) Tryz.prog 5 Tryz.f5 Rows.streamShorterSpec Rows.streamShorterUptoRow = true:=by kernel_rfl
theorem c5_18:(fun (P:Program) (f:FuncId) (fn:Func) (s:ChangeSpec) (c:OpenClaim) => (s.vars.all (P.varReadable ·):Bool)) Tryz.prog 5 Tryz.f5 Rows.streamShorterSpec Rows.streamShorterUptoRow = true:=by kernel_rfl
theorem c5_19:(fun (P:Program) (f:FuncId) (fn:Func) (s:ChangeSpec) (c:OpenClaim) => (fn.resultTypes.all (fun t => P.readableRec t && decide (t < P.types.size)):Bool)) Tryz.prog 5 Tryz.f5 Rows.streamShorterSpec Rows.streamShorterUptoRow = true:=by kernel_rfl
theorem c5_20:(fun (P:Program) (f:FuncId) (fn:Func) (s:ChangeSpec) (c:OpenClaim) => ((c.ifacesOut == fn.resultTypes.toList.any (P.ifacesRec ·)):Bool)) Tryz.prog 5 Tryz.f5 Rows.streamShorterSpec Rows.streamShorterUptoRow = true:=by kernel_rfl
theorem c5_21:(fun (P:Program) (f:FuncId) (fn:Func) (s:ChangeSpec) (c:OpenClaim) => ((c.loopsOut == fn.resultTypes.toList.any (P.loopsFrom ·)):Bool)) Tryz.prog 5 Tryz.f5 Rows.streamShorterSpec Rows.streamShorterUptoRow = true:=by kernel_rfl
theorem c5_22:(fun (P:Program) (f:FuncId) (fn:Func) (s:ChangeSpec) (c:OpenClaim) => ((c.plainKeys == P.plainKeys):Bool)) Tryz.prog 5 Tryz.f5 Rows.streamShorterSpec Rows.streamShorterUptoRow = true:=by kernel_rfl
theorem c5_23:(fun (P:Program) (f:FuncId) (fn:Func) (s:ChangeSpec) (c:OpenClaim) => (c.shortTexts.isNone:Bool)) Tryz.prog 5 Tryz.f5 Rows.streamShorterSpec Rows.streamShorterUptoRow = true:=by kernel_rfl
theorem c5_26:(fun (P:Program) (f:FuncId) (fn:Func) (s:ChangeSpec) (c:OpenClaim) => ((c.lifted == P.liftsFinal):Bool)) Tryz.prog 5 Tryz.f5 Rows.streamShorterSpec Rows.streamShorterUptoRow = true:=by kernel_rfl
theorem c5_27:(fun (P:Program) (f:FuncId) (fn:Func) (s:ChangeSpec) (c:OpenClaim) => ((P.make == some c.make):Bool)) Tryz.prog 5 Tryz.f5 Rows.streamShorterSpec Rows.streamShorterUptoRow = true:=by kernel_rfl
theorem c5_28:(fun (P:Program) (f:FuncId) (fn:Func) (s:ChangeSpec) (c:OpenClaim) => ((c.kinds == (if c.domain.isEmpty then [] else fn.params.toList.map fun t => match P.underlying t with | some (.int k) => some k | _ => none)):Bool)) Tryz.prog 5 Tryz.f5 Rows.streamShorterSpec Rows.streamShorterUptoRow = true:=by kernel_rfl
theorem c5_29:(fun (P:Program) (f:FuncId) (fn:Func) (s:ChangeSpec) (c:OpenClaim) => ((c.pinned == c.pinnedBy):Bool)) Tryz.prog 5 Tryz.f5 Rows.streamShorterSpec Rows.streamShorterUptoRow = true:=by kernel_rfl
theorem c5_30:(fun (P:Program) (f:FuncId) (fn:Func) (s:ChangeSpec) (c:OpenClaim) => ((c.veiled == (fn.params.toList ++ s.plain.varTypes P ++ fn.resultTypes.toList).any (P.veiledRec ·)):Bool)) Tryz.prog 5 Tryz.f5 Rows.streamShorterSpec Rows.streamShorterUptoRow = true:=by kernel_rfl
theorem c5_31:(fun (P:Program) (f:FuncId) (fn:Func) (s:ChangeSpec) (c:OpenClaim) => (c.veiledFits P fn.params.toList (fn.params.toList ++ s.plain.varTypes P ++ fn.resultTypes.toList):Bool)) Tryz.prog 5 Tryz.f5 Rows.streamShorterSpec Rows.streamShorterUptoRow = true:=by kernel_rfl
theorem c5_joined:joinedFacts Tryz.prog 5 Tryz.f5 Rows.streamShorterSpec Rows.streamShorterUptoRow = true :=
 joined_mk _ _ _ _ _ c5_0 sh1 sh2 c5_3 c5_4 c5_5 sh6 c5_7 sh8 c5_9 c5_10 c5_11 c5_12 c5_13 c5_14 c5_15 c5_16 c5_17 c5_18 c5_19 c5_20 c5_21 c5_22 c5_23 sh24 sh25 c5_26 c5_27 c5_28 c5_29 c5_30 c5_31
theorem c5_named:Tryz.prog.funcNamed Rows.streamShorterUptoRow.func = some 5:=by kernel_rfl
theorem c5_func:Tryz.prog.funcs[5]? = some Tryz.f5:=by kernel_rfl
theorem c5_inst:Tryz.f5.isInstance Tryz.prog Rows.streamShorterUptoRow.origin Rows.streamShorterUptoRow.targs:=of_decide_eq_true (by kernel_rfl)
theorem c5_wrap:Tryz.f5.isWrapper Tryz.prog Rows.streamShorterUptoRow.wrapper Rows.streamShorterUptoRow.mainSum:=by
 unfold Func.isWrapper; rw [if_neg (of_decide_eq_false (by kernel_rfl))]; exact ⟨rfl,rfl⟩
theorem c5_goes:false = Rows.streamShorterUptoRow.goesBy Tryz.prog:=by kernel_rfl
theorem c5_text:Rows.streamShorterUptoRow.wfByText (Rows.OpenSpec.upto Rows.streamShorterSpec) = true:=by kernel_rfl
theorem c5_inits:Tryz.prog.inits.idxOf? 5 = none:=by kernel_rfl
theorem c5_res:Tryz.f5.resultTypes = #[4]:=by kernel_rfl
end Go.Proofs.YtgnjidopnplbbaaGreatDoor
