import Derived.Test.YtgnjidopnplbbaaGreatDoorQ18
/- Facts of the program and of a row, each a reckoning. Printed by a program of this work (facts.py). -/
set_option maxRecDepth 100000
set_option linter.unusedVariables false
namespace Go.Proofs.YtgnjidopnplbbaaGreatDoor
open Go

theorem c9_0 : (fun (P : Program) (f : FuncId) (fn : Func) (s : ChangeSpec) (c : OpenClaim) => (c.wf (OpenSpec.ofChange s) : Bool)) Tryz.prog 9 Tryz.f9 Rows.streamSplitsSpec Rows.streamSplitsUptoRow = true := by kernel_rfl
theorem c9_3 : (fun (P : Program) (f : FuncId) (fn : Func) (s : ChangeSpec) (c : OpenClaim) => (fn.params.all (P.readableRec ·) : Bool)) Tryz.prog 9 Tryz.f9 Rows.streamSplitsSpec Rows.streamSplitsUptoRow = true := by kernel_rfl
theorem c9_4 : (fun (P : Program) (f : FuncId) (fn : Func) (s : ChangeSpec) (c : OpenClaim) => (namedTie P c.named s.vars : Bool)) Tryz.prog 9 Tryz.f9 Rows.streamSplitsSpec Rows.streamSplitsUptoRow = true := by kernel_rfl
theorem c9_5 : (fun (P : Program) (f : FuncId) (fn : Func) (s : ChangeSpec) (c : OpenClaim) => ((c.stops == []) : Bool)) Tryz.prog 9 Tryz.f9 Rows.streamSplitsSpec Rows.streamSplitsUptoRow = true := by kernel_rfl
theorem c9_7 : (fun (P : Program) (f : FuncId) (fn : Func) (s : ChangeSpec) (c : OpenClaim) => ((c.knobs == []) : Bool)) Tryz.prog 9 Tryz.f9 Rows.streamSplitsSpec Rows.streamSplitsUptoRow = true := by kernel_rfl
theorem c9_9 : (fun (P : Program) (f : FuncId) (fn : Func) (s : ChangeSpec) (c : OpenClaim) => ((c.inPlace == P.inPlace f) : Bool)) Tryz.prog 9 Tryz.f9 Rows.streamSplitsSpec Rows.streamSplitsUptoRow = true := by kernel_rfl
theorem c9_10 : (fun (P : Program) (f : FuncId) (fn : Func) (s : ChangeSpec) (c : OpenClaim) => ((c.unfollowed == P.unfollowed f) : Bool)) Tryz.prog 9 Tryz.f9 Rows.streamSplitsSpec Rows.streamSplitsUptoRow = true := by kernel_rfl
theorem c9_11 : (fun (P : Program) (f : FuncId) (fn : Func) (s : ChangeSpec) (c : OpenClaim) => ((c.recurses == P.recurses f) : Bool)) Tryz.prog 9 Tryz.f9 Rows.streamSplitsSpec Rows.streamSplitsUptoRow = true := by kernel_rfl
theorem c9_12 : (fun (P : Program) (f : FuncId) (fn : Func) (s : ChangeSpec) (c : OpenClaim) => ((c.named == P.varsNamed f) : Bool)) Tryz.prog 9 Tryz.f9 Rows.streamSplitsSpec Rows.streamSplitsUptoRow = true := by kernel_rfl
theorem c9_13 : (fun (P : Program) (f : FuncId) (fn : Func) (s : ChangeSpec) (c : OpenClaim) => ((c.maps == (fn.params.toList ++ s.plain.varTypes P).any (P.mapsRec ·)) : Bool)) Tryz.prog 9 Tryz.f9 Rows.streamSplitsSpec Rows.streamSplitsUptoRow = true := by kernel_rfl
theorem c9_14 : (fun (P : Program) (f : FuncId) (fn : Func) (s : ChangeSpec) (c : OpenClaim) => ((c.ifaces == (fn.params.toList ++ s.plain.varTypes P).any (P.ifacesRec ·)) : Bool)) Tryz.prog 9 Tryz.f9 Rows.streamSplitsSpec Rows.streamSplitsUptoRow = true := by kernel_rfl
theorem c9_15 : (fun (P : Program) (f : FuncId) (fn : Func) (s : ChangeSpec) (c : OpenClaim) => ((c.mapsOut == P.mapsAmong fn.resultTypes.toList) : Bool)) Tryz.prog 9 Tryz.f9 Rows.streamSplitsSpec Rows.streamSplitsUptoRow = true := by kernel_rfl
theorem c9_16 : (fun (P : Program) (f : FuncId) (fn : Func) (s : ChangeSpec) (c : OpenClaim) => ((c.loops == (fn.params.toList ++ s.plain.varTypes P).any (P.loopsFrom ·)) : Bool)) Tryz.prog 9 Tryz.f9 Rows.streamSplitsSpec Rows.streamSplitsUptoRow = true := by kernel_rfl
theorem c9_17 : (fun (P : Program) (f : FuncId) (fn : Func) (s : ChangeSpec) (c : OpenClaim) => ((c.wideKeys == (fn.params.toList ++ s.plain.varTypes P ++ fn.resultTypes.toList).any (P.wideKeysFrom ·)) : Bool)) Tryz.prog 9 Tryz.f9 Rows.streamSplitsSpec Rows.streamSplitsUptoRow = true := by kernel_rfl
theorem c9_18 : (fun (P : Program) (f : FuncId) (fn : Func) (s : ChangeSpec) (c : OpenClaim) => (s.vars.all (P.varReadable ·) : Bool)) Tryz.prog 9 Tryz.f9 Rows.streamSplitsSpec Rows.streamSplitsUptoRow = true := by kernel_rfl
theorem c9_19 : (fun (P : Program) (f : FuncId) (fn : Func) (s : ChangeSpec) (c : OpenClaim) => (fn.resultTypes.all (fun t => P.readableRec t && decide (t < P.types.size)) : Bool)) Tryz.prog 9 Tryz.f9 Rows.streamSplitsSpec Rows.streamSplitsUptoRow = true := by kernel_rfl
theorem c9_20 : (fun (P : Program) (f : FuncId) (fn : Func) (s : ChangeSpec) (c : OpenClaim) => ((c.ifacesOut == fn.resultTypes.toList.any (P.ifacesRec ·)) : Bool)) Tryz.prog 9 Tryz.f9 Rows.streamSplitsSpec Rows.streamSplitsUptoRow = true := by kernel_rfl
theorem c9_21 : (fun (P : Program) (f : FuncId) (fn : Func) (s : ChangeSpec) (c : OpenClaim) => ((c.loopsOut == fn.resultTypes.toList.any (P.loopsFrom ·)) : Bool)) Tryz.prog 9 Tryz.f9 Rows.streamSplitsSpec Rows.streamSplitsUptoRow = true := by kernel_rfl
theorem c9_22 : (fun (P : Program) (f : FuncId) (fn : Func) (s : ChangeSpec) (c : OpenClaim) => ((c.plainKeys == P.plainKeys) : Bool)) Tryz.prog 9 Tryz.f9 Rows.streamSplitsSpec Rows.streamSplitsUptoRow = true := by kernel_rfl
theorem c9_23 : (fun (P : Program) (f : FuncId) (fn : Func) (s : ChangeSpec) (c : OpenClaim) => (c.shortTexts.isNone : Bool)) Tryz.prog 9 Tryz.f9 Rows.streamSplitsSpec Rows.streamSplitsUptoRow = true := by kernel_rfl
theorem c9_26 : (fun (P : Program) (f : FuncId) (fn : Func) (s : ChangeSpec) (c : OpenClaim) => ((c.lifted == P.liftsFinal) : Bool)) Tryz.prog 9 Tryz.f9 Rows.streamSplitsSpec Rows.streamSplitsUptoRow = true := by kernel_rfl
theorem c9_27 : (fun (P : Program) (f : FuncId) (fn : Func) (s : ChangeSpec) (c : OpenClaim) => ((P.make == some c.make) : Bool)) Tryz.prog 9 Tryz.f9 Rows.streamSplitsSpec Rows.streamSplitsUptoRow = true := by kernel_rfl
theorem c9_28 : (fun (P : Program) (f : FuncId) (fn : Func) (s : ChangeSpec) (c : OpenClaim) => ((c.kinds == (if c.domain.isEmpty then [] else fn.params.toList.map fun t => match P.underlying t with | some (.int k) => some k | _ => none)) : Bool)) Tryz.prog 9 Tryz.f9 Rows.streamSplitsSpec Rows.streamSplitsUptoRow = true := by kernel_rfl
theorem c9_29 : (fun (P : Program) (f : FuncId) (fn : Func) (s : ChangeSpec) (c : OpenClaim) => ((c.pinned == c.pinnedBy) : Bool)) Tryz.prog 9 Tryz.f9 Rows.streamSplitsSpec Rows.streamSplitsUptoRow = true := by kernel_rfl
theorem c9_30 : (fun (P : Program) (f : FuncId) (fn : Func) (s : ChangeSpec) (c : OpenClaim) => ((c.veiled == (fn.params.toList ++ s.plain.varTypes P ++ fn.resultTypes.toList).any (P.veiledRec ·)) : Bool)) Tryz.prog 9 Tryz.f9 Rows.streamSplitsSpec Rows.streamSplitsUptoRow = true := by kernel_rfl
theorem c9_31 : (fun (P : Program) (f : FuncId) (fn : Func) (s : ChangeSpec) (c : OpenClaim) => (c.veiledFits P fn.params.toList (fn.params.toList ++ s.plain.varTypes P ++ fn.resultTypes.toList) : Bool)) Tryz.prog 9 Tryz.f9 Rows.streamSplitsSpec Rows.streamSplitsUptoRow = true := by kernel_rfl
theorem c9_joined : joinedFacts Tryz.prog 9 Tryz.f9 Rows.streamSplitsSpec Rows.streamSplitsUptoRow = true :=
  joined_mk _ _ _ _ _ c9_0 sh1 sh2 c9_3 c9_4 c9_5 sh6 c9_7 sh8 c9_9 c9_10 c9_11 c9_12 c9_13 c9_14 c9_15 c9_16 c9_17 c9_18 c9_19 c9_20 c9_21 c9_22 c9_23 sh24 sh25 c9_26 c9_27 c9_28 c9_29 c9_30 c9_31
theorem c9_named : Tryz.prog.funcNamed Rows.streamSplitsUptoRow.func = some 9 := by kernel_rfl
theorem c9_func : Tryz.prog.funcs[9]? = some Tryz.f9 := by kernel_rfl
theorem c9_inst : Tryz.f9.isInstance Tryz.prog Rows.streamSplitsUptoRow.origin Rows.streamSplitsUptoRow.targs := of_decide_eq_true (by kernel_rfl)
theorem c9_wrap : Tryz.f9.isWrapper Tryz.prog Rows.streamSplitsUptoRow.wrapper Rows.streamSplitsUptoRow.mainSum := by
  unfold Func.isWrapper; rw [if_neg (of_decide_eq_false (by kernel_rfl))]; exact ⟨rfl, rfl⟩
theorem c9_goes : false = Rows.streamSplitsUptoRow.goesBy Tryz.prog := by kernel_rfl
theorem c9_text : Rows.streamSplitsUptoRow.wfByText (Rows.OpenSpec.upto Rows.streamSplitsSpec) = true := by kernel_rfl
theorem c9_inits : Tryz.prog.inits.idxOf? 9 = none := by kernel_rfl
theorem c9_res : Tryz.f9.resultTypes = #[4] := by kernel_rfl
end Go.Proofs.YtgnjidopnplbbaaGreatDoor
