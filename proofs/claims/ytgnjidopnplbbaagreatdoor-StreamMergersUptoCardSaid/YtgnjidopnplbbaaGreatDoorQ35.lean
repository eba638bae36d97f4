import Derived.Test.YtgnjidopnplbbaaGreatDoorQ18
/- Facts of the program and of a row, each a reckoning. Printed by a program of this work (facts.py). -/
set_option maxRecDepth 100000
set_option linter.unusedVariables false
namespace Go.Proofs.YtgnjidopnplbbaaGreatDoor
open Go

theorem c13_0:(fun (P:Program) (f:FuncId) (fn:Func) (s:ChangeSpec) (c:OpenClaim) => (c.wf (OpenSpec.ofChange s):Bool)) Tryz.prog 13 Tryz.f13 Rows.streamMergersSpec Rows.streamMergersUptoRow = true:=by kernel_rfl
theorem c13_3:(fun (P:Program) (f:FuncId) (fn:Func) (s:ChangeSpec) (c:OpenClaim) => (fn.params.all (P.readableRec ·):Bool)) Tryz.prog 13 Tryz.f13 Rows.streamMergersSpec Rows.streamMergersUptoRow = true:=by kernel_rfl
theorem c13_4:(fun (P:Program) (f:FuncId) (fn:Func) (s:ChangeSpec) (c:OpenClaim) => (namedTie P c.named s.vars:Bool)) Tryz.prog 13 Tryz.f13 Rows.streamMergersSpec Rows.streamMergersUptoRow = true:=by kernel_rfl
theorem c13_5:(fun (P:Program) (f:FuncId) (fn:Func) (s:ChangeSpec) (c:OpenClaim) => ((c.stops == []):Bool)) Tryz.prog 13 Tryz.f13 Rows.streamMergersSpec Rows.streamMergersUptoRow = true:=by kernel_rfl
theorem c13_7:(fun (P:Program) (f:FuncId) (fn:Func) (s:ChangeSpec) (c:OpenClaim) => ((c.knobs == []):Bool)) Tryz.prog 13 Tryz.f13 Rows.streamMergersSpec Rows.streamMergersUptoRow = true:=by kernel_rfl
theorem c13_9:(fun (P:Program) (f:FuncId) (fn:Func) (s:ChangeSpec) (c:OpenClaim) => ((c.inPlace == P.inPlace f):Bool)) Tryz.prog 13 Tryz.f13 Rows.streamMergersSpec Rows.streamMergersUptoRow = true:=by kernel_rfl
theorem c13_10:(fun (P:Program) (f:FuncId) (fn:Func) (s:ChangeSpec) (c:OpenClaim) => ((c.unfollowed == P.unfollowed f):Bool)) Tryz.prog 13 Tryz.f13 Rows.streamMergersSpec Rows.streamMergersUptoRow = true:=by kernel_rfl
theorem c13_11:(fun (P:Program) (f:FuncId) (fn:Func) (s:ChangeSpec) (c:OpenClaim) => ((c.recurses == P.recurses f):Bool)) Tryz.prog 13 Tryz.f13 Rows.streamMergersSpec Rows.streamMergersUptoRow = true:=by kernel_rfl
theorem c13_12:(fun (P:Program) (f:FuncId) (fn:Func) (s:ChangeSpec) (c:OpenClaim) => ((c.named == P.varsNamed f):Bool)) Tryz.prog 13 Tryz.f13 Rows.streamMergersSpec Rows.streamMergersUptoRow = true:=by kernel_rfl
theorem c13_13:(fun (P:Program) (f:FuncId) (fn:Func) (s:ChangeSpec) (c:OpenClaim) => ((c.maps == (fn.params.toList ++ s.plain.varTypes P).any (P.mapsRec ·)):Bool)) Tryz.prog 13 Tryz.f13 Rows.streamMergersSpec Rows.streamMergersUptoRow = true:=by kernel_rfl
theorem c13_14:(fun (P:Program) (f:FuncId) (fn:Func) (s:ChangeSpec) (c:OpenClaim) => ((c.ifaces == (fn.params.toList ++ s.plain.varTypes P).any (P.ifacesRec ·)):Bool)) Tryz.prog 13 Tryz.f13 Rows.streamMergersSpec Rows.streamMergersUptoRow = true:=by kernel_rfl
theorem c13_15:(fun (P:Program) (f:FuncId) (fn:Func) (s:ChangeSpec) (c:OpenClaim) => ((c.mapsOut == P.mapsAmong fn.resultTypes.toList):Bool)) Tryz.prog 13 Tryz.f13 Rows.streamMergersSpec Rows.streamMergersUptoRow = true:=by kernel_rfl
theorem c13_16:(fun (P:Program) (f:FuncId) (fn:Func) (s:ChangeSpec) (c:OpenClaim) => ((c.loops == (fn.params.toList ++ s.plain.varTypes P).any (P.loopsFrom ·)):Bool)) Tryz.prog 13 Tryz.f13 Rows.streamMergersSpec Rows.streamMergersUptoRow = true:=by kernel_rfl
theorem c13_17:(fun (P:Program) (f:FuncId) (fn:Func) (s:ChangeSpec) (c:OpenClaim) => ((c.wideKeys == (fn.params.toList ++ s.plain.varTypes P ++ fn.resultTypes.toList).any (P.wideKeysFrom ·)):Bool)) Tryz.prog 13 Tryz.f13 Rows.streamMergersSpec Rows.streamMergersUptoRow = true:=by kernel_rfl
theorem c13_18:(fun (P:Program) (f:FuncId) (fn:Func) (s:ChangeSpec) (c:OpenClaim) => (s.vars.all (P.varReadable ·):Bool)) Tryz.prog 13 Tryz.f13 Rows.streamMergersSpec Rows.streamMergersUptoRow = true:=by kernel_rfl
theorem c13_19:(fun (P:Program) (f:FuncId) (fn:Func) (s:ChangeSpec) (c:OpenClaim) => (fn.resultTypes.all (fun t => P.readableRec t && decide (t < P.types.size)):Bool)) Tryz.prog 13 Tryz.f13 Rows.streamMergersSpec Rows.streamMergersUptoRow = true:=by kernel_rfl
theorem c13_20:(fun (P:Program) (f:FuncId) (fn:Func) (s:ChangeSpec) (c:OpenClaim) => ((c.ifacesOut == fn.resultTypes.toList.any (P.ifacesRec ·)):Bool)) Tryz.prog 13 Tryz.f13 Rows.streamMergersSpec Rows.streamMergersUptoRow = true:=by kernel_rfl
theorem c13_21:(fun (P:Program) (f:FuncId) (fn:Func) (s:ChangeSpec) (c:OpenClaim) => ((c.loopsOut == fn.resultTypes.toList.any (P.loopsFrom ·)):Bool)) Tryz.prog 13 Tryz.f13 Rows.streamMergersSpec Rows.streamMergersUptoRow = true:=by kernel_rfl
theorem c13_22:(fun (P:Program) (f:FuncId) (fn:Func) (s:ChangeSpec) (c:OpenClaim) => ((c.plainKeys == P.plainKeys):Bool)) Tryz.prog 13 Tryz.f13 Rows.streamMergersSpec Rows.streamMergersUptoRow = true:=by kernel_rfl
theorem c13_23:(fun (P:Program) (f:FuncId) (fn:Func) (s:ChangeSpec) (c:OpenClaim) => (c.shortTexts.isNone:Bool)) Tryz.prog 13 Tryz.f13 Rows.streamMergersSpec Rows.streamMergersUptoRow = true:=by kernel_rfl
theorem c13_26:(fun (P:Program) (f:FuncId) (fn:Func) (s:ChangeSpec) (c:OpenClaim) => ((c.lifted == P.liftsFinal):Bool)) Tryz.prog 13 Tryz.f13 Rows.streamMergersSpec Rows.streamMergersUptoRow = true:=by kernel_rfl
theorem c13_27:(fun (P:Program) (f:FuncId) (fn:Func) (s:ChangeSpec) (c:OpenClaim) => ((P.make == some c.make):Bool)) Tryz.prog 13 Tryz.f13 Rows.streamMergersSpec Rows.streamMergersUptoRow = true:=by kernel_rfl
theorem c13_28:(fun (P:Program) (f:FuncId) (fn:Func) (s:ChangeSpec) (c:OpenClaim) => ((c.kinds == (if c.domain.isEmpty then [] else fn.params.toList.map fun t => match P.underlying t with | some (.int k) => some k | _ => none)):Bool)) Tryz.prog 13 Tryz.f13 Rows.streamMergersSpec Rows.streamMergersUptoRow = true:=by kernel_rfl
theorem c13_29:(fun (P:Program) (f:FuncId) (fn:Func) (s:ChangeSpec) (c:OpenClaim) => ((c.pinned == c.pinnedBy):Bool)) Tryz.prog 13 Tryz.f13 Rows.streamMergersSpec Rows.streamMergersUptoRow = true:=by kernel_rfl
theorem c13_30:(fun (P:Program) (f:FuncId) (fn:Func) (s:ChangeSpec) (c:OpenClaim) => ((c.veiled == (fn.params.toList ++ s.plain.varTypes P ++ fn.resultTypes.toList).any (P.veiledRec ·)):Bool)) Tryz.prog 13 Tryz.f13 Rows.streamMergersSpec Rows.streamMergersUptoRow = true:=by kernel_rfl
theorem c13_31:(fun (P:Program) (f:FuncId) (fn:Func) (s:ChangeSpec) (c:OpenClaim) => (c.veiledFits P fn.params.toList (fn.params.toList ++ s.plain.varTypes P ++ fn.resultTypes.toList):Bool)) Tryz.prog 13 Tryz.f13 Rows.streamMergersSpec Rows.streamMergersUptoRow = true:=by kernel_rfl
theorem c13_joined:joinedFacts Tryz.prog 13 Tryz.f13 Rows.streamMergersSpec Rows.streamMergersUptoRow = true :=
 joined_mk _ _ _ _ _ c13_0 sh1 sh2 c13_3 c13_4 c13_5 sh6 c13_7 sh8 c13_9 c13_10 c13_11 c13_12 c13_13 c13_14 c13_15 c13_16 c13_17 c13_18 c13_19 c13_20 c13_21 c13_22 c13_23 sh24 sh25 c13_26 c13_27 c13_28 c13_29 c13_30 c13_31
theorem c13_named:Tryz.prog.funcNamed Rows.streamMergersUptoRow.func = some 13:=by kernel_rfl
theorem c13_func:Tryz.prog.funcs[13]? = some Tryz.f13:=by kernel_rfl
theorem c13_inst:Tryz.f13.isInstance Tryz.prog Rows.streamMergersUptoRow.origin Rows.streamMergersUptoRow.targs:=of_decide_eq_true (by kernel_rfl)
theorem c13_wrap:Tryz.f13.isWrapper Tryz.prog Rows.streamMergersUptoRow.wrapper Rows.streamMergersUptoRow.mainSum:=by
 unfold Func.isWrapper; rw [if_neg (of_decide_eq_false (by kernel_rfl))]; exact ⟨rfl,rfl⟩
theorem c13_goes:false = Rows.streamMergersUptoRow.goesBy Tryz.prog:=by kernel_rfl
theorem c13_text:Rows.streamMergersUptoRow.wfByText (Rows.OpenSpec.upto Rows.streamMergersSpec) = true:=by kernel_rfl
theorem c13_inits:Tryz.prog.inits.idxOf? 13 = none:=by kernel_rfl
theorem c13_res:Tryz.f13.resultTypes = #[4]:=by kernel_rfl
end Go.Proofs.YtgnjidopnplbbaaGreatDoor
