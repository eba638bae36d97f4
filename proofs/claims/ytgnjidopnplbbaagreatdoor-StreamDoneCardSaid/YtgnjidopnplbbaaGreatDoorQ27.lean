import Derived.Test.YtgnjidopnplbbaaGreatDoorQ16
/- Facts of the program and of a row, each a reckoning. Printed by a program of this work (facts.py). -/
set_option maxRecDepth 100000
set_option linter.unusedVariables false
namespace Go.Proofs.YtgnjidopnplbbaaGreatDoor
open Go

theorem c12_0 : (fun (P : Program) (f : FuncId) (fn : Func) (s : ChangeSpec) (c : OpenClaim) => (c.wf (OpenSpec.ofChange s) : Bool)) Tryz.prog 12 Tryz.f12 Rows.streamDoneSpec Rows.streamDoneRow = true := by kernel_rfl
theorem c12_3 : (fun (P : Program) (f : FuncId) (fn : Func) (s : ChangeSpec) (c : OpenClaim) => (fn.params.all (P.readableRec ·) : Bool)) Tryz.prog 12 Tryz.f12 Rows.streamDoneSpec Rows.streamDoneRow = true := by kernel_rfl
theorem c12_4 : (fun (P : Program) (f : FuncId) (fn : Func) (s : ChangeSpec) (c : OpenClaim) => (namedTie P c.named s.vars : Bool)) Tryz.prog 12 Tryz.f12 Rows.streamDoneSpec Rows.streamDoneRow = true := by kernel_rfl
theorem c12_5 : (fun (P : Program) (f : FuncId) (fn : Func) (s : ChangeSpec) (c : OpenClaim) => ((c.stops == []) : Bool)) Tryz.prog 12 Tryz.f12 Rows.streamDoneSpec Rows.streamDoneRow = true := by kernel_rfl
theorem c12_7 : (fun (P : Program) (f : FuncId) (fn : Func) (s : ChangeSpec) (c : OpenClaim) => ((c.knobs == []) : Bool)) Tryz.prog 12 Tryz.f12 Rows.streamDoneSpec Rows.streamDoneRow = true := by kernel_rfl
theorem c12_9 : (fun (P : Program) (f : FuncId) (fn : Func) (s : ChangeSpec) (c : OpenClaim) => ((c.inPlace == P.inPlace f) : Bool)) Tryz.prog 12 Tryz.f12 Rows.streamDoneSpec Rows.streamDoneRow = true := by kernel_rfl
theorem c12_10 : (fun (P : Program) (f : FuncId) (fn : Func) (s : ChangeSpec) (c : OpenClaim) => ((c.unfollowed == P.unfollowed f) : Bool)) Tryz.prog 12 Tryz.f12 Rows.streamDoneSpec Rows.streamDoneRow = true := by kernel_rfl
theorem c12_11 : (fun (P : Program) (f : FuncId) (fn : Func) (s : ChangeSpec) (c : OpenClaim) => ((c.recurses == P.recurses f) : Bool)) Tryz.prog 12 Tryz.f12 Rows.streamDoneSpec Rows.streamDoneRow = true := by kernel_rfl
theorem c12_12 : (fun (P : Program) (f : FuncId) (fn : Func) (s : ChangeSpec) (c : OpenClaim) => ((c.named == P.varsNamed f) : Bool)) Tryz.prog 12 Tryz.f12 Rows.streamDoneSpec Rows.streamDoneRow = true := by kernel_rfl
theorem c12_13 : (fun (P : Program) (f : FuncId) (fn : Func) (s : ChangeSpec) (c : OpenClaim) => ((c.maps == (fn.params.toList ++ s.plain.varTypes P).any (P.mapsRec ·)) : Bool)) Tryz.prog 12 Tryz.f12 Rows.streamDoneSpec Rows.streamDoneRow = true := by kernel_rfl
theorem c12_14 : (fun (P : Program) (f : FuncId) (fn : Func) (s : ChangeSpec) (c : OpenClaim) => ((c.ifaces == (fn.params.toList ++ s.plain.varTypes P).any (P.ifacesRec ·)) : Bool)) Tryz.prog 12 Tryz.f12 Rows.streamDoneSpec Rows.streamDoneRow = true := by kernel_rfl
theorem c12_15 : (fun (P : Program) (f : FuncId) (fn : Func) (s : ChangeSpec) (c : OpenClaim) => ((c.mapsOut == P.mapsAmong fn.resultTypes.toList) : Bool)) Tryz.prog 12 Tryz.f12 Rows.streamDoneSpec Rows.streamDoneRow = true := by kernel_rfl
theorem c12_16 : (fun (P : Program) (f : FuncId) (fn : Func) (s : ChangeSpec) (c : OpenClaim) => ((c.loops == (fn.params.toList ++ s.plain.varTypes P).any (P.loopsFrom ·)) : Bool)) Tryz.prog 12 Tryz.f12 Rows.streamDoneSpec Rows.streamDoneRow = true := by kernel_rfl
theorem c12_17 : (fun (P : Program) (f : FuncId) (fn : Func) (s : ChangeSpec) (c : OpenClaim) => ((c.wideKeys == (fn.params.toList ++ s.plain.varTypes P ++ fn.resultTypes.toList).any (P.wideKeysFrom ·)) : Bool)) Tryz.prog 12 Tryz.f12 Rows.streamDoneSpec Rows.streamDoneRow = true := by kernel_rfl
theorem c12_18 : (fun (P : Program) (f : FuncId) (fn : Func) (s : ChangeSpec) (c : OpenClaim) => (s.vars.all (P.varReadable ·) : Bool)) Tryz.prog 12 Tryz.f12 Rows.streamDoneSpec Rows.streamDoneRow = true := by kernel_rfl
theorem c12_19 : (fun (P : Program) (f : FuncId) (fn : Func) (s : ChangeSpec) (c : OpenClaim) => (fn.resultTypes.all (fun t => P.readableRec t && decide (t < P.types.size)) : Bool)) Tryz.prog 12 Tryz.f12 Rows.streamDoneSpec Rows.streamDoneRow = true := by kernel_rfl
theorem c12_20 : (fun (P : Program) (f : FuncId) (fn : Func) (s : ChangeSpec) (c : OpenClaim) => ((c.ifacesOut == fn.resultTypes.toList.any (P.ifacesRec ·)) : Bool)) Tryz.prog 12 Tryz.f12 Rows.streamDoneSpec Rows.streamDoneRow = true := by kernel_rfl
theorem c12_21 : (fun (P : Program) (f : FuncId) (fn : Func) (s : ChangeSpec) (c : OpenClaim) => ((c.loopsOut == fn.resultTypes.toList.any (P.loopsFrom ·)) : Bool)) Tryz.prog 12 Tryz.f12 Rows.streamDoneSpec Rows.streamDoneRow = true := by kernel_rfl
theorem c12_22 : (fun (P : Program) (f : FuncId) (fn : Func) (s : ChangeSpec) (c : OpenClaim) => ((c.plainKeys == P.plainKeys) : Bool)) Tryz.prog 12 Tryz.f12 Rows.streamDoneSpec Rows.streamDoneRow = true := by kernel_rfl
theorem c12_23 : (fun (P : Program) (f : FuncId) (fn : Func) (s : ChangeSpec) (c : OpenClaim) => (c.shortTexts.isNone : Bool)) Tryz.prog 12 Tryz.f12 Rows.streamDoneSpec Rows.streamDoneRow = true := by kernel_rfl
theorem c12_26 : (fun (P : Program) (f : FuncId) (fn : Func) (s : ChangeSpec) (c : OpenClaim) => ((c.lifted == P.liftsFinal) : Bool)) Tryz.prog 12 Tryz.f12 Rows.streamDoneSpec Rows.streamDoneRow = true := by kernel_rfl
theorem c12_27 : (fun (P : Program) (f : FuncId) (fn : Func) (s : ChangeSpec) (c : OpenClaim) => ((P.make == some c.make) : Bool)) Tryz.prog 12 Tryz.f12 Rows.streamDoneSpec Rows.streamDoneRow = true := by kernel_rfl
theorem c12_28 : (fun (P : Program) (f : FuncId) (fn : Func) (s : ChangeSpec) (c : OpenClaim) => ((c.kinds == (if c.domain.isEmpty then [] else fn.params.toList.map fun t => match P.underlying t with | some (.int k) => some k | _ => none)) : Bool)) Tryz.prog 12 Tryz.f12 Rows.streamDoneSpec Rows.streamDoneRow = true := by kernel_rfl
theorem c12_29 : (fun (P : Program) (f : FuncId) (fn : Func) (s : ChangeSpec) (c : OpenClaim) => ((c.pinned == c.pinnedBy) : Bool)) Tryz.prog 12 Tryz.f12 Rows.streamDoneSpec Rows.streamDoneRow = true := by kernel_rfl
theorem c12_30 : (fun (P : Program) (f : FuncId) (fn : Func) (s : ChangeSpec) (c : OpenClaim) => ((c.veiled == (fn.params.toList ++ s.plain.varTypes P ++ fn.resultTypes.toList).any (P.veiledRec ·)) : Bool)) Tryz.prog 12 Tryz.f12 Rows.streamDoneSpec Rows.streamDoneRow = true := by kernel_rfl
theorem c12_31 : (fun (P : Program) (f : FuncId) (fn : Func) (s : ChangeSpec) (c : OpenClaim) => (c.veiledFits P fn.params.toList (fn.params.toList ++ s.plain.varTypes P ++ fn.resultTypes.toList) : Bool)) Tryz.prog 12 Tryz.f12 Rows.streamDoneSpec Rows.streamDoneRow = true := by kernel_rfl
theorem c12_joined : joinedFacts Tryz.prog 12 Tryz.f12 Rows.streamDoneSpec Rows.streamDoneRow = true :=
  joined_mk _ _ _ _ _ c12_0 sh1 sh2 c12_3 c12_4 c12_5 sh6 c12_7 sh8 c12_9 c12_10 c12_11 c12_12 c12_13 c12_14 c12_15 c12_16 c12_17 c12_18 c12_19 c12_20 c12_21 c12_22 c12_23 sh24 sh25 c12_26 c12_27 c12_28 c12_29 c12_30 c12_31
theorem c12_named : Tryz.prog.funcNamed Rows.streamDoneRow.func = some 12 := by kernel_rfl
theorem c12_func : Tryz.prog.funcs[12]? = some Tryz.f12 := by kernel_rfl
theorem c12_inst : Tryz.f12.isInstance Tryz.prog Rows.streamDoneRow.origin Rows.streamDoneRow.targs := of_decide_eq_true (by kernel_rfl)
theorem c12_wrap : Tryz.f12.isWrapper Tryz.prog Rows.streamDoneRow.wrapper Rows.streamDoneRow.mainSum := by
  unfold Func.isWrapper; rw [if_neg (of_decide_eq_false (by kernel_rfl))]; exact ⟨rfl, rfl⟩
theorem c12_goes : false = Rows.streamDoneRow.goesBy Tryz.prog := by kernel_rfl
theorem c12_text : Rows.streamDoneRow.wfByText (OpenSpec.ofChange Rows.streamDoneSpec) = true := by kernel_rfl
theorem c12_inits : Tryz.prog.inits.idxOf? 12 = none := by kernel_rfl
theorem c12_res : Tryz.f12.resultTypes = #[4] := by kernel_rfl
end Go.Proofs.YtgnjidopnplbbaaGreatDoor
