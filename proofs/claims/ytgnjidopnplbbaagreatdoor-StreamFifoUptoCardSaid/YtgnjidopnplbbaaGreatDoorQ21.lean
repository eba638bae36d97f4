import Derived.Test.YtgnjidopnplbbaaGreatDoorQ20
/- Facts of the program and of a row, each a reckoning. Printed by a program of this work (facts.py). -/
set_option maxRecDepth 100000
set_option linter.unusedVariables false
namespace Go.Proofs.YtgnjidopnplbbaaGreatDoor
open Go

theorem c7_0 : (fun (P : Program) (f : FuncId) (fn : Func) (s : ChangeSpec) (c : OpenClaim) => (c.wf (OpenSpec.ofChange s) : Bool)) Tryz.prog 7 Tryz.f7 Rows.streamFifoSpec Rows.streamFifoUptoRow = true := by kernel_rfl
theorem c7_3 : (fun (P : Program) (f : FuncId) (fn : Func) (s : ChangeSpec) (c : OpenClaim) => (fn.params.all (P.readableRec ·) : Bool)) Tryz.prog 7 Tryz.f7 Rows.streamFifoSpec Rows.streamFifoUptoRow = true := by kernel_rfl
theorem c7_4 : (fun (P : Program) (f : FuncId) (fn : Func) (s : ChangeSpec) (c : OpenClaim) => (namedTie P c.named s.vars : Bool)) Tryz.prog 7 Tryz.f7 Rows.streamFifoSpec Rows.streamFifoUptoRow = true := by kernel_rfl
theorem c7_5 : (fun (P : Program) (f : FuncId) (fn : Func) (s : ChangeSpec) (c : OpenClaim) => ((c.stops == []) : Bool)) Tryz.prog 7 Tryz.f7 Rows.streamFifoSpec Rows.streamFifoUptoRow = true := by kernel_rfl
theorem c7_7 : (fun (P : Program) (f : FuncId) (fn : Func) (s : ChangeSpec) (c : OpenClaim) => ((c.knobs == []) : Bool)) Tryz.prog 7 Tryz.f7 Rows.streamFifoSpec Rows.streamFifoUptoRow = true := by kernel_rfl
theorem c7_9 : (fun (P : Program) (f : FuncId) (fn : Func) (s : ChangeSpec) (c : OpenClaim) => ((c.inPlace == P.inPlace f) : Bool)) Tryz.prog 7 Tryz.f7 Rows.streamFifoSpec Rows.streamFifoUptoRow = true := by kernel_rfl
theorem c7_10 : (fun (P : Program) (f : FuncId) (fn : Func) (s : ChangeSpec) (c : OpenClaim) => ((c.unfollowed == P.unfollowed f) : Bool)) Tryz.prog 7 Tryz.f7 Rows.streamFifoSpec Rows.streamFifoUptoRow = true := by kernel_rfl
theorem c7_11 : (fun (P : Program) (f : FuncId) (fn : Func) (s : ChangeSpec) (c : OpenClaim) => ((c.recurses == P.recurses f) : Bool)) Tryz.prog 7 Tryz.f7 Rows.streamFifoSpec Rows.streamFifoUptoRow = true := by kernel_rfl
theorem c7_12 : (fun (P : Program) (f : FuncId) (fn : Func) (s : ChangeSpec) (c : OpenClaim) => ((c.named == P.varsNamed f) : Bool)) Tryz.prog 7 Tryz.f7 Rows.streamFifoSpec Rows.streamFifoUptoRow = true := by kernel_rfl
theorem c7_13 : (fun (P : Program) (f : FuncId) (fn : Func) (s : ChangeSpec) (c : OpenClaim) => ((c.maps == (fn.params.toList ++ s.plain.varTypes P).any (P.mapsRec ·)) : Bool)) Tryz.prog 7 Tryz.f7 Rows.streamFifoSpec Rows.streamFifoUptoRow = true := by kernel_rfl
theorem c7_14 : (fun (P : Program) (f : FuncId) (fn : Func) (s : ChangeSpec) (c : OpenClaim) => ((c.ifaces == (fn.params.toList ++ s.plain.varTypes P).any (P.ifacesRec ·)) : Bool)) Tryz.prog 7 Tryz.f7 Rows.streamFifoSpec Rows.streamFifoUptoRow = true := by kernel_rfl
theorem c7_15 : (fun (P : Program) (f : FuncId) (fn : Func) (s : ChangeSpec) (c : OpenClaim) => ((c.mapsOut == P.mapsAmong fn.resultTypes.toList) : Bool)) Tryz.prog 7 Tryz.f7 Rows.streamFifoSpec Rows.streamFifoUptoRow = true := by kernel_rfl
theorem c7_16 : (fun (P : Program) (f : FuncId) (fn : Func) (s : ChangeSpec) (c : OpenClaim) => ((c.loops == (fn.params.toList ++ s.plain.varTypes P).any (P.loopsFrom ·)) : Bool)) Tryz.prog 7 Tryz.f7 Rows.streamFifoSpec Rows.streamFifoUptoRow = true := by kernel_rfl
theorem c7_17 : (fun (P : Program) (f : FuncId) (fn : Func) (s : ChangeSpec) (c : OpenClaim) => ((c.wideKeys == (fn.params.toList ++ s.plain.varTypes P ++ fn.resultTypes.toList).any (P.wideKeysFrom ·)) : Bool)) Tryz.prog 7 Tryz.f7 Rows.streamFifoSpec Rows.streamFifoUptoRow = true := by kernel_rfl
theorem c7_18 : (fun (P : Program) (f : FuncId) (fn : Func) (s : ChangeSpec) (c : OpenClaim) => (s.vars.all (P.varReadable ·) : Bool)) Tryz.prog 7 Tryz.f7 Rows.streamFifoSpec Rows.streamFifoUptoRow = true := by kernel_rfl
theorem c7_19 : (fun (P : Program) (f : FuncId) (fn : Func) (s : ChangeSpec) (c : OpenClaim) => (fn.resultTypes.all (fun t => P.readableRec t && decide (t < P.types.size)) : Bool)) Tryz.prog 7 Tryz.f7 Rows.streamFifoSpec Rows.streamFifoUptoRow = true := by kernel_rfl
theorem c7_20 : (fun (P : Program) (f : FuncId) (fn : Func) (s : ChangeSpec) (c : OpenClaim) => ((c.ifacesOut == fn.resultTypes.toList.any (P.ifacesRec ·)) : Bool)) Tryz.prog 7 Tryz.f7 Rows.streamFifoSpec Rows.streamFifoUptoRow = true := by kernel_rfl
theorem c7_21 : (fun (P : Program) (f : FuncId) (fn : Func) (s : ChangeSpec) (c : OpenClaim) => ((c.loopsOut == fn.resultTypes.toList.any (P.loopsFrom ·)) : Bool)) Tryz.prog 7 Tryz.f7 Rows.streamFifoSpec Rows.streamFifoUptoRow = true := by kernel_rfl
theorem c7_22 : (fun (P : Program) (f : FuncId) (fn : Func) (s : ChangeSpec) (c : OpenClaim) => ((c.plainKeys == P.plainKeys) : Bool)) Tryz.prog 7 Tryz.f7 Rows.streamFifoSpec Rows.streamFifoUptoRow = true := by kernel_rfl
theorem c7_23 : (fun (P : Program) (f : FuncId) (fn : Func) (s : ChangeSpec) (c : OpenClaim) => (c.shortTexts.isNone : Bool)) Tryz.prog 7 Tryz.f7 Rows.streamFifoSpec Rows.streamFifoUptoRow = true := by kernel_rfl
theorem c7_26 : (fun (P : Program) (f : FuncId) (fn : Func) (s : ChangeSpec) (c : OpenClaim) => ((c.lifted == P.liftsFinal) : Bool)) Tryz.prog 7 Tryz.f7 Rows.streamFifoSpec Rows.streamFifoUptoRow = true := by kernel_rfl
theorem c7_27 : (fun (P : Program) (f : FuncId) (fn : Func) (s : ChangeSpec) (c : OpenClaim) => ((P.make == some c.make) : Bool)) Tryz.prog 7 Tryz.f7 Rows.streamFifoSpec Rows.streamFifoUptoRow = true := by kernel_rfl
theorem c7_28 : (fun (P : Program) (f : FuncId) (fn : Func) (s : ChangeSpec) (c : OpenClaim) => ((c.kinds == (if c.domain.isEmpty then [] else fn.params.toList.map fun t => match P.underlying t with | some (.int k) => some k | _ => none)) : Bool)) Tryz.prog 7 Tryz.f7 Rows.streamFifoSpec Rows.streamFifoUptoRow = true := by kernel_rfl
theorem c7_29 : (fun (P : Program) (f : FuncId) (fn : Func) (s : ChangeSpec) (c : OpenClaim) => ((c.pinned == c.pinnedBy) : Bool)) Tryz.prog 7 Tryz.f7 Rows.streamFifoSpec Rows.streamFifoUptoRow = true := by kernel_rfl
theorem c7_30 : (fun (P : Program) (f : FuncId) (fn : Func) (s : ChangeSpec) (c : OpenClaim) => ((c.veiled == (fn.params.toList ++ s.plain.varTypes P ++ fn.resultTypes.toList).any (P.veiledRec ·)) : Bool)) Tryz.prog 7 Tryz.f7 Rows.streamFifoSpec Rows.streamFifoUptoRow = true := by kernel_rfl
theorem c7_31 : (fun (P : Program) (f : FuncId) (fn : Func) (s : ChangeSpec) (c : OpenClaim) => (c.veiledFits P fn.params.toList (fn.params.toList ++ s.plain.varTypes P ++ fn.resultTypes.toList) : Bool)) Tryz.prog 7 Tryz.f7 Rows.streamFifoSpec Rows.streamFifoUptoRow = true := by kernel_rfl
theorem c7_joined : joinedFacts Tryz.prog 7 Tryz.f7 Rows.streamFifoSpec Rows.streamFifoUptoRow = true :=
  joined_mk _ _ _ _ _ c7_0 sh1 sh2 c7_3 c7_4 c7_5 sh6 c7_7 sh8 c7_9 c7_10 c7_11 c7_12 c7_13 c7_14 c7_15 c7_16 c7_17 c7_18 c7_19 c7_20 c7_21 c7_22 c7_23 sh24 sh25 c7_26 c7_27 c7_28 c7_29 c7_30 c7_31
theorem c7_named : Tryz.prog.funcNamed Rows.streamFifoUptoRow.func = some 7 := by kernel_rfl
theorem c7_func : Tryz.prog.funcs[7]? = some Tryz.f7 := by kernel_rfl
theorem c7_inst : Tryz.f7.isInstance Tryz.prog Rows.streamFifoUptoRow.origin Rows.streamFifoUptoRow.targs := of_decide_eq_true (by kernel_rfl)
theorem c7_wrap : Tryz.f7.isWrapper Tryz.prog Rows.streamFifoUptoRow.wrapper Rows.streamFifoUptoRow.mainSum := by
  unfold Func.isWrapper; rw [if_neg (of_decide_eq_false (by kernel_rfl))]; exact ⟨rfl, rfl⟩
theorem c7_goes : false = Rows.streamFifoUptoRow.goesBy Tryz.prog := by kernel_rfl
theorem c7_text : Rows.streamFifoUptoRow.wfByText (Rows.OpenSpec.upto Rows.streamFifoSpec) = true := by kernel_rfl
theorem c7_inits : Tryz.prog.inits.idxOf? 7 = none := by kernel_rfl
theorem c7_res : Tryz.f7.resultTypes = #[4] := by kernel_rfl
end Go.Proofs.YtgnjidopnplbbaaGreatDoor
