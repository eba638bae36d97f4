/- Facts of the program and of a row, each a reckoning. Printed by a program of this work (facts.py). -/
import Derived.Test.YtgnjidopnplbbaaGreatDoorC0
set_option maxRecDepth 100000
set_option linter.unusedVariables false
namespace Go.Proofs.YtgnjidopnplbbaaGreatDoor
open Go

theorem c4_0 : (fun (P : Program) (f : FuncId) (fn : Func) (s : ChangeSpec) (c : OpenClaim) => (c.wf (OpenSpec.ofChange s) : Bool)) Tryz.prog 4 Tryz.f4 Rows.streamSizesSpec Rows.streamSizesRow = true := by kernel_rfl
theorem c4_3 : (fun (P : Program) (f : FuncId) (fn : Func) (s : ChangeSpec) (c : OpenClaim) => (fn.params.all (P.readableRec ·) : Bool)) Tryz.prog 4 Tryz.f4 Rows.streamSizesSpec Rows.streamSizesRow = true := by kernel_rfl
theorem c4_4 : (fun (P : Program) (f : FuncId) (fn : Func) (s : ChangeSpec) (c : OpenClaim) => (namedTie P c.named s.vars : Bool)) Tryz.prog 4 Tryz.f4 Rows.streamSizesSpec Rows.streamSizesRow = true := by kernel_rfl
theorem c4_5 : (fun (P : Program) (f : FuncId) (fn : Func) (s : ChangeSpec) (c : OpenClaim) => ((c.stops == []) : Bool)) Tryz.prog 4 Tryz.f4 Rows.streamSizesSpec Rows.streamSizesRow = true := by kernel_rfl
theorem c4_7 : (fun (P : Program) (f : FuncId) (fn : Func) (s : ChangeSpec) (c : OpenClaim) => ((c.knobs == []) : Bool)) Tryz.prog 4 Tryz.f4 Rows.streamSizesSpec Rows.streamSizesRow = true := by kernel_rfl
theorem c4_9 : (fun (P : Program) (f : FuncId) (fn : Func) (s : ChangeSpec) (c : OpenClaim) => ((c.inPlace == P.inPlace f) : Bool)) Tryz.prog 4 Tryz.f4 Rows.streamSizesSpec Rows.streamSizesRow = true := by kernel_rfl
theorem c4_10 : (fun (P : Program) (f : FuncId) (fn : Func) (s : ChangeSpec) (c : OpenClaim) => ((c.unfollowed == P.unfollowed f) : Bool)) Tryz.prog 4 Tryz.f4 Rows.streamSizesSpec Rows.streamSizesRow = true := by kernel_rfl
theorem c4_11 : (fun (P : Program) (f : FuncId) (fn : Func) (s : ChangeSpec) (c : OpenClaim) => ((c.recurses == P.recurses f) : Bool)) Tryz.prog 4 Tryz.f4 Rows.streamSizesSpec Rows.streamSizesRow = true := by kernel_rfl
theorem c4_12 : (fun (P : Program) (f : FuncId) (fn : Func) (s : ChangeSpec) (c : OpenClaim) => ((c.named == P.varsNamed f) : Bool)) Tryz.prog 4 Tryz.f4 Rows.streamSizesSpec Rows.streamSizesRow = true := by kernel_rfl
theorem c4_13 : (fun (P : Program) (f : FuncId) (fn : Func) (s : ChangeSpec) (c : OpenClaim) => ((c.maps == (fn.params.toList ++ s.plain.varTypes P).any (P.mapsRec ·)) : Bool)) Tryz.prog 4 Tryz.f4 Rows.streamSizesSpec Rows.streamSizesRow = true := by kernel_rfl
theorem c4_14 : (fun (P : Program) (f : FuncId) (fn : Func) (s : ChangeSpec) (c : OpenClaim) => ((c.ifaces == (fn.params.toList ++ s.plain.varTypes P).any (P.ifacesRec ·)) : Bool)) Tryz.prog 4 Tryz.f4 Rows.streamSizesSpec Rows.streamSizesRow = true := by kernel_rfl
theorem c4_15 : (fun (P : Program) (f : FuncId) (fn : Func) (s : ChangeSpec) (c : OpenClaim) => ((c.mapsOut == P.mapsAmong fn.resultTypes.toList) : Bool)) Tryz.prog 4 Tryz.f4 Rows.streamSizesSpec Rows.streamSizesRow = true := by kernel_rfl
theorem c4_16 : (fun (P : Program) (f : FuncId) (fn : Func) (s : ChangeSpec) (c : OpenClaim) => ((c.loops == (fn.params.toList ++ s.plain.varTypes P).any (P.loopsFrom ·)) : Bool)) Tryz.prog 4 Tryz.f4 Rows.streamSizesSpec Rows.streamSizesRow = true := by kernel_rfl
theorem c4_17 : (fun (P : Program) (f : FuncId) (fn : Func) (s : ChangeSpec) (c : OpenClaim) => ((c.wideKeys == (fn.params.toList ++ s.plain.varTypes P ++ fn.resultTypes.toList).any (P.wideKeysFrom ·)) : Bool)) Tryz.prog 4 Tryz.f4 Rows.streamSizesSpec Rows.streamSizesRow = true := by kernel_rfl
theorem c4_18 : (fun (P : Program) (f : FuncId) (fn : Func) (s : ChangeSpec) (c : OpenClaim) => (s.vars.all (P.varReadable ·) : Bool)) Tryz.prog 4 Tryz.f4 Rows.streamSizesSpec Rows.streamSizesRow = true := by kernel_rfl
theorem c4_19 : (fun (P : Program) (f : FuncId) (fn : Func) (s : ChangeSpec) (c : OpenClaim) => (fn.resultTypes.all (fun t => P.readableRec t && decide (t < P.types.size)) : Bool)) Tryz.prog 4 Tryz.f4 Rows.streamSizesSpec Rows.streamSizesRow = true := by kernel_rfl
theorem c4_20 : (fun (P : Program) (f : FuncId) (fn : Func) (s : ChangeSpec) (c : OpenClaim) => ((c.ifacesOut == fn.resultTypes.toList.any (P.ifacesRec ·)) : Bool)) Tryz.prog 4 Tryz.f4 Rows.streamSizesSpec Rows.streamSizesRow = true := by kernel_rfl
theorem c4_21 : (fun (P : Program) (f : FuncId) (fn : Func) (s : ChangeSpec) (c : OpenClaim) => ((c.loopsOut == fn.resultTypes.toList.any (P.loopsFrom ·)) : Bool)) Tryz.prog 4 Tryz.f4 Rows.streamSizesSpec Rows.streamSizesRow = true := by kernel_rfl
theorem c4_22 : (fun (P : Program) (f : FuncId) (fn : Func) (s : ChangeSpec) (c : OpenClaim) => ((c.plainKeys == P.plainKeys) : Bool)) Tryz.prog 4 Tryz.f4 Rows.streamSizesSpec Rows.streamSizesRow = true := by kernel_rfl
theorem c4_23 : (fun (P : Program) (f : FuncId) (fn : Func) (s : ChangeSpec) (c : OpenClaim) => (c.shortTexts.isNone : Bool)) Tryz.prog 4 Tryz.f4 Rows.streamSizesSpec Rows.streamSizesRow = true := by kernel_rfl
theorem c4_26 : (fun (P : Program) (f : FuncId) (fn : Func) (s : ChangeSpec) (c : OpenClaim) => ((c.lifted == P.liftsFinal) : Bool)) Tryz.prog 4 Tryz.f4 Rows.streamSizesSpec Rows.streamSizesRow = true := by kernel_rfl
theorem c4_27 : (fun (P : Program) (f : FuncId) (fn : Func) (s : ChangeSpec) (c : OpenClaim) => ((P.make == some c.make) : Bool)) Tryz.prog 4 Tryz.f4 Rows.streamSizesSpec Rows.streamSizesRow = true := by kernel_rfl
theorem c4_28 : (fun (P : Program) (f : FuncId) (fn : Func) (s : ChangeSpec) (c : OpenClaim) => ((c.kinds == (if c.domain.isEmpty then [] else fn.params.toList.map fun t => match P.underlying t with | some (.int k) => some k | _ => none)) : Bool)) Tryz.prog 4 Tryz.f4 Rows.streamSizesSpec Rows.streamSizesRow = true := by kernel_rfl
theorem c4_29 : (fun (P : Program) (f : FuncId) (fn : Func) (s : ChangeSpec) (c : OpenClaim) => ((c.pinned == c.pinnedBy) : Bool)) Tryz.prog 4 Tryz.f4 Rows.streamSizesSpec Rows.streamSizesRow = true := by kernel_rfl
theorem c4_30 : (fun (P : Program) (f : FuncId) (fn : Func) (s : ChangeSpec) (c : OpenClaim) => ((c.veiled == (fn.params.toList ++ s.plain.varTypes P ++ fn.resultTypes.toList).any (P.veiledRec ·)) : Bool)) Tryz.prog 4 Tryz.f4 Rows.streamSizesSpec Rows.streamSizesRow = true := by kernel_rfl
theorem c4_31 : (fun (P : Program) (f : FuncId) (fn : Func) (s : ChangeSpec) (c : OpenClaim) => (c.veiledFits P fn.params.toList (fn.params.toList ++ s.plain.varTypes P ++ fn.resultTypes.toList) : Bool)) Tryz.prog 4 Tryz.f4 Rows.streamSizesSpec Rows.streamSizesRow = true := by kernel_rfl
theorem c4_joined : joinedFacts Tryz.prog 4 Tryz.f4 Rows.streamSizesSpec Rows.streamSizesRow = true :=
  joined_mk _ _ _ _ _ c4_0 sh1 sh2 c4_3 c4_4 c4_5 sh6 c4_7 sh8 c4_9 c4_10 c4_11 c4_12 c4_13 c4_14 c4_15 c4_16 c4_17 c4_18 c4_19 c4_20 c4_21 c4_22 c4_23 sh24 sh25 c4_26 c4_27 c4_28 c4_29 c4_30 c4_31
theorem c4_named : Tryz.prog.funcNamed Rows.streamSizesRow.func = some 4 := by kernel_rfl
theorem c4_func : Tryz.prog.funcs[4]? = some Tryz.f4 := by kernel_rfl
theorem c4_inst : Tryz.f4.isInstance Tryz.prog Rows.streamSizesRow.origin Rows.streamSizesRow.targs := of_decide_eq_true (by kernel_rfl)
theorem c4_wrap : Tryz.f4.isWrapper Tryz.prog Rows.streamSizesRow.wrapper Rows.streamSizesRow.mainSum := by
  unfold Func.isWrapper; rw [if_neg (of_decide_eq_false (by kernel_rfl))]; exact ⟨rfl, rfl⟩
theorem c4_goes : false = Rows.streamSizesRow.goesBy Tryz.prog := by kernel_rfl
theorem c4_text : Rows.streamSizesRow.wfByText (OpenSpec.ofChange Rows.streamSizesSpec) = true := by kernel_rfl
theorem c4_inits : Tryz.prog.inits.idxOf? 4 = none := by kernel_rfl
theorem c4_res : Tryz.f4.resultTypes = #[4] := by kernel_rfl
end Go.Proofs.YtgnjidopnplbbaaGreatDoor
