import Derived.Test.YtgnjidopnplbbaaGreatDoorQ16
/- Facts of the program and of a row, each a reckoning. Printed by a program of this work (facts.py). -/
set_option maxRecDepth 100000
set_option linter.unusedVariables false
namespace Go.Proofs.YtgnjidopnplbbaaGreatDoor
open Go

theorem c14_0 : (fun (P : Program) (f : FuncId) (fn : Func) (s : ChangeSpec) (c : OpenClaim) => (c.wf (OpenSpec.ofChange s) : Bool)) Tryz.prog 14 Tryz.f14 Rows.streamWorkSpec Rows.streamWorkRow = true := by kernel_rfl
theorem c14_3 : (fun (P : Program) (f : FuncId) (fn : Func) (s : ChangeSpec) (c : OpenClaim) => (fn.params.all (P.readableRec ·) : Bool)) Tryz.prog 14 Tryz.f14 Rows.streamWorkSpec Rows.streamWorkRow = true := by kernel_rfl
theorem c14_4 : (fun (P : Program) (f : FuncId) (fn : Func) (s : ChangeSpec) (c : OpenClaim) => (namedTie P c.named s.vars : Bool)) Tryz.prog 14 Tryz.f14 Rows.streamWorkSpec Rows.streamWorkRow = true := by kernel_rfl
theorem c14_5 : (fun (P : Program) (f : FuncId) (fn : Func) (s : ChangeSpec) (c : OpenClaim) => ((c.stops == []) : Bool)) Tryz.prog 14 Tryz.f14 Rows.streamWorkSpec Rows.streamWorkRow = true := by kernel_rfl
theorem c14_7 : (fun (P : Program) (f : FuncId) (fn : Func) (s : ChangeSpec) (c : OpenClaim) => ((c.knobs == []) : Bool)) Tryz.prog 14 Tryz.f14 Rows.streamWorkSpec Rows.streamWorkRow = true := by kernel_rfl
theorem c14_9 : (fun (P : Program) (f : FuncId) (fn : Func) (s : ChangeSpec) (c : OpenClaim) => ((c.inPlace == P.inPlace f) : Bool)) Tryz.prog 14 Tryz.f14 Rows.streamWorkSpec Rows.streamWorkRow = true := by kernel_rfl
theorem c14_10 : (fun (P : Program) (f : FuncId) (fn : Func) (s : ChangeSpec) (c : OpenClaim) => ((c.unfollowed == P.unfollowed f) : Bool)) Tryz.prog 14 Tryz.f14 Rows.streamWorkSpec Rows.streamWorkRow = true := by kernel_rfl
theorem c14_11 : (fun (P : Program) (f : FuncId) (fn : Func) (s : ChangeSpec) (c : OpenClaim) => ((c.recurses == P.recurses f) : Bool)) Tryz.prog 14 Tryz.f14 Rows.streamWorkSpec Rows.streamWorkRow = true := by kernel_rfl
theorem c14_12 : (fun (P : Program) (f : FuncId) (fn : Func) (s : ChangeSpec) (c : OpenClaim) => ((c.named == P.varsNamed f) : Bool)) Tryz.prog 14 Tryz.f14 Rows.streamWorkSpec Rows.streamWorkRow = true := by kernel_rfl
theorem c14_13 : (fun (P : Program) (f : FuncId) (fn : Func) (s : ChangeSpec) (c : OpenClaim) => ((c.maps == (fn.params.toList ++ s.plain.varTypes P).any (P.mapsRec ·)) : Bool)) Tryz.prog 14 Tryz.f14 Rows.streamWorkSpec Rows.streamWorkRow = true := by kernel_rfl
theorem c14_14 : (fun (P : Program) (f : FuncId) (fn : Func) (s : ChangeSpec) (c : OpenClaim) => ((c.ifaces == (fn.params.toList ++ s.plain.varTypes P).any (P.ifacesRec ·)) : Bool)) Tryz.prog 14 Tryz.f14 Rows.streamWorkSpec Rows.streamWorkRow = true := by kernel_rfl
theorem c14_15 : (fun (P : Program) (f : FuncId) (fn : Func) (s : ChangeSpec) (c : OpenClaim) => ((c.mapsOut == P.mapsAmong fn.resultTypes.toList) : Bool)) Tryz.prog 14 Tryz.f14 Rows.streamWorkSpec Rows.streamWorkRow = true := by kernel_rfl
theorem c14_16 : (fun (P : Program) (f : FuncId) (fn : Func) (s : ChangeSpec) (c : OpenClaim) => ((c.loops == (fn.params.toList ++ s.plain.varTypes P).any (P.loopsFrom ·)) : Bool)) Tryz.prog 14 Tryz.f14 Rows.streamWorkSpec Rows.streamWorkRow = true := by kernel_rfl
theorem c14_17 : (fun (P : Program) (f : FuncId) (fn : Func) (s : ChangeSpec) (c : OpenClaim) => ((c.wideKeys == (fn.params.toList ++ s.plain.varTypes P ++ fn.resultTypes.toList).any (P.wideKeysFrom ·)) : Bool)) Tryz.prog 14 Tryz.f14 Rows.streamWorkSpec Rows.streamWorkRow = true := by kernel_rfl
theorem c14_18 : (fun (P : Program) (f : FuncId) (fn : Func) (s : ChangeSpec) (c : OpenClaim) => (s.vars.all (P.varReadable ·) : Bool)) Tryz.prog 14 Tryz.f14 Rows.streamWorkSpec Rows.streamWorkRow = true := by kernel_rfl
theorem c14_19 : (fun (P : Program) (f : FuncId) (fn : Func) (s : ChangeSpec) (c : OpenClaim) => (fn.resultTypes.all (fun t => P.readableRec t && decide (t < P.types.size)) : Bool)) Tryz.prog 14 Tryz.f14 Rows.streamWorkSpec Rows.streamWorkRow = true := by kernel_rfl
theorem c14_20 : (fun (P : Program) (f : FuncId) (fn : Func) (s : ChangeSpec) (c : OpenClaim) => ((c.ifacesOut == fn.resultTypes.toList.any (P.ifacesRec ·)) : Bool)) Tryz.prog 14 Tryz.f14 Rows.streamWorkSpec Rows.streamWorkRow = true := by kernel_rfl
theorem c14_21 : (fun (P : Program) (f : FuncId) (fn : Func) (s : ChangeSpec) (c : OpenClaim) => ((c.loopsOut == fn.resultTypes.toList.any (P.loopsFrom ·)) : Bool)) Tryz.prog 14 Tryz.f14 Rows.streamWorkSpec Rows.streamWorkRow = true := by kernel_rfl
theorem c14_22 : (fun (P : Program) (f : FuncId) (fn : Func) (s : ChangeSpec) (c : OpenClaim) => ((c.plainKeys == P.plainKeys) : Bool)) Tryz.prog 14 Tryz.f14 Rows.streamWorkSpec Rows.streamWorkRow = true := by kernel_rfl
theorem c14_23 : (fun (P : Program) (f : FuncId) (fn : Func) (s : ChangeSpec) (c : OpenClaim) => (c.shortTexts.isNone : Bool)) Tryz.prog 14 Tryz.f14 Rows.streamWorkSpec Rows.streamWorkRow = true := by kernel_rfl
theorem c14_26 : (fun (P : Program) (f : FuncId) (fn : Func) (s : ChangeSpec) (c : OpenClaim) => ((c.lifted == P.liftsFinal) : Bool)) Tryz.prog 14 Tryz.f14 Rows.streamWorkSpec Rows.streamWorkRow = true := by kernel_rfl
theorem c14_27 : (fun (P : Program) (f : FuncId) (fn : Func) (s : ChangeSpec) (c : OpenClaim) => ((P.make == some c.make) : Bool)) Tryz.prog 14 Tryz.f14 Rows.streamWorkSpec Rows.streamWorkRow = true := by kernel_rfl
theorem c14_28 : (fun (P : Program) (f : FuncId) (fn : Func) (s : ChangeSpec) (c : OpenClaim) => ((c.kinds == (if c.domain.isEmpty then [] else fn.params.toList.map fun t => match P.underlying t with | some (.int k) => some k | _ => none)) : Bool)) Tryz.prog 14 Tryz.f14 Rows.streamWorkSpec Rows.streamWorkRow = true := by kernel_rfl
theorem c14_29 : (fun (P : Program) (f : FuncId) (fn : Func) (s : ChangeSpec) (c : OpenClaim) => ((c.pinned == c.pinnedBy) : Bool)) Tryz.prog 14 Tryz.f14 Rows.streamWorkSpec Rows.streamWorkRow = true := by kernel_rfl
theorem c14_30 : (fun (P : Program) (f : FuncId) (fn : Func) (s : ChangeSpec) (c : OpenClaim) => ((c.veiled == (fn.params.toList ++ s.plain.varTypes P ++ fn.resultTypes.toList).any (P.veiledRec ·)) : Bool)) Tryz.prog 14 Tryz.f14 Rows.streamWorkSpec Rows.streamWorkRow = true := by kernel_rfl
theorem c14_31 : (fun (P : Program) (f : FuncId) (fn : Func) (s : ChangeSpec) (c : OpenClaim) => (c.veiledFits P fn.params.toList (fn.params.toList ++ s.plain.varTypes P ++ fn.resultTypes.toList) : Bool)) Tryz.prog 14 Tryz.f14 Rows.streamWorkSpec Rows.streamWorkRow = true := by kernel_rfl
theorem c14_joined : joinedFacts Tryz.prog 14 Tryz.f14 Rows.streamWorkSpec Rows.streamWorkRow = true :=
  joined_mk _ _ _ _ _ c14_0 sh1 sh2 c14_3 c14_4 c14_5 sh6 c14_7 sh8 c14_9 c14_10 c14_11 c14_12 c14_13 c14_14 c14_15 c14_16 c14_17 c14_18 c14_19 c14_20 c14_21 c14_22 c14_23 sh24 sh25 c14_26 c14_27 c14_28 c14_29 c14_30 c14_31
theorem c14_named : Tryz.prog.funcNamed Rows.streamWorkRow.func = some 14 := by kernel_rfl
theorem c14_func : Tryz.prog.funcs[14]? = some Tryz.f14 := by kernel_rfl
theorem c14_inst : Tryz.f14.isInstance Tryz.prog Rows.streamWorkRow.origin Rows.streamWorkRow.targs := of_decide_eq_true (by kernel_rfl)
theorem c14_wrap : Tryz.f14.isWrapper Tryz.prog Rows.streamWorkRow.wrapper Rows.streamWorkRow.mainSum := by
  unfold Func.isWrapper; rw [if_neg (of_decide_eq_false (by kernel_rfl))]; exact ⟨rfl, rfl⟩
theorem c14_goes : false = Rows.streamWorkRow.goesBy Tryz.prog := by kernel_rfl
theorem c14_text : Rows.streamWorkRow.wfByText (OpenSpec.ofChange Rows.streamWorkSpec) = true := by kernel_rfl
theorem c14_inits : Tryz.prog.inits.idxOf? 14 = none := by kernel_rfl
theorem c14_res : Tryz.f14.resultTypes = #[4] := by kernel_rfl
end Go.Proofs.YtgnjidopnplbbaaGreatDoor
