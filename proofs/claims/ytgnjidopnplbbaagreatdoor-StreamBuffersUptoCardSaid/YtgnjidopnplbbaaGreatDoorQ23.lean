import Derived.Test.YtgnjidopnplbbaaGreatDoorQ22
/- Facts of the program and of a row, each a reckoning. Printed by a program of this work (facts.py). -/
set_option maxRecDepth 100000
set_option linter.unusedVariables false
namespace Go.Proofs.YtgnjidopnplbbaaGreatDoor
open Go

theorem c6_0 : (fun (P : Program) (f : FuncId) (fn : Func) (s : ChangeSpec) (c : OpenClaim) => (c.wf (OpenSpec.ofChange s) : Bool)) Tryz.prog 6 Tryz.f6 Rows.streamBuffersSpec Rows.streamBuffersUptoRow = true := by kernel_rfl
theorem c6_3 : (fun (P : Program) (f : FuncId) (fn : Func) (s : ChangeSpec) (c : OpenClaim) => (fn.params.all (P.readableRec ·) : Bool)) Tryz.prog 6 Tryz.f6 Rows.streamBuffersSpec Rows.streamBuffersUptoRow = true := by kernel_rfl
theorem c6_4 : (fun (P : Program) (f : FuncId) (fn : Func) (s : ChangeSpec) (c : OpenClaim) => (namedTie P c.named s.vars : Bool)) Tryz.prog 6 Tryz.f6 Rows.streamBuffersSpec Rows.streamBuffersUptoRow = true := by kernel_rfl
theorem c6_5 : (fun (P : Program) (f : FuncId) (fn : Func) (s : ChangeSpec) (c : OpenClaim) => ((c.stops == []) : Bool)) Tryz.prog 6 Tryz.f6 Rows.streamBuffersSpec Rows.streamBuffersUptoRow = true := by kernel_rfl
theorem c6_7 : (fun (P : Program) (f : FuncId) (fn : Func) (s : ChangeSpec) (c : OpenClaim) => ((c.knobs == []) : Bool)) Tryz.prog 6 Tryz.f6 Rows.streamBuffersSpec Rows.streamBuffersUptoRow = true := by kernel_rfl
theorem c6_9 : (fun (P : Program) (f : FuncId) (fn : Func) (s : ChangeSpec) (c : OpenClaim) => ((c.inPlace == P.inPlace f) : Bool)) Tryz.prog 6 Tryz.f6 Rows.streamBuffersSpec Rows.streamBuffersUptoRow = true := by kernel_rfl
theorem c6_10 : (fun (P : Program) (f : FuncId) (fn : Func) (s : ChangeSpec) (c : OpenClaim) => ((c.unfollowed == P.unfollowed f) : Bool)) Tryz.prog 6 Tryz.f6 Rows.streamBuffersSpec Rows.streamBuffersUptoRow = true := by kernel_rfl
theorem c6_11 : (fun (P : Program) (f : FuncId) (fn : Func) (s : ChangeSpec) (c : OpenClaim) => ((c.recurses == P.recurses f) : Bool)) Tryz.prog 6 Tryz.f6 Rows.streamBuffersSpec Rows.streamBuffersUptoRow = true := by kernel_rfl
theorem c6_12 : (fun (P : Program) (f : FuncId) (fn : Func) (s : ChangeSpec) (c : OpenClaim) => ((c.named == P.varsNamed f) : Bool)) Tryz.prog 6 Tryz.f6 Rows.streamBuffersSpec Rows.streamBuffersUptoRow = true := by kernel_rfl
theorem c6_13 : (fun (P : Program) (f : FuncId) (fn : Func) (s : ChangeSpec) (c : OpenClaim) => ((c.maps == (fn.params.toList ++ s.plain.varTypes P).any (P.mapsRec ·)) : Bool)) Tryz.prog 6 Tryz.f6 Rows.streamBuffersSpec Rows.streamBuffersUptoRow = true := by kernel_rfl
theorem c6_14 : (fun (P : Program) (f : FuncId) (fn : Func) (s : ChangeSpec) (c : OpenClaim) => ((c.ifaces == (fn.params.toList ++ s.plain.varTypes P).any (P.ifacesRec ·)) : Bool)) Tryz.prog 6 Tryz.f6 Rows.streamBuffersSpec Rows.streamBuffersUptoRow = true := by kernel_rfl
theorem c6_15 : (fun (P : Program) (f : FuncId) (fn : Func) (s : ChangeSpec) (c : OpenClaim) => ((c.mapsOut == P.mapsAmong fn.resultTypes.toList) : Bool)) Tryz.prog 6 Tryz.f6 Rows.streamBuffersSpec Rows.streamBuffersUptoRow = true := by kernel_rfl
theorem c6_16 : (fun (P : Program) (f : FuncId) (fn : Func) (s : ChangeSpec) (c : OpenClaim) => ((c.loops == (fn.params.toList ++ s.plain.varTypes P).any (P.loopsFrom ·)) : Bool)) Tryz.prog 6 Tryz.f6 Rows.streamBuffersSpec Rows.streamBuffersUptoRow = true := by kernel_rfl
theorem c6_17 : (fun (P : Program) (f : FuncId) (fn : Func) (s : ChangeSpec) (c : OpenClaim) => ((c.wideKeys == (fn.params.toList ++ s.plain.varTypes P ++ fn.resultTypes.toList).any (P.wideKeysFrom ·)) : Bool)) Tryz.prog 6 Tryz.f6 Rows.streamBuffersSpec Rows.streamBuffersUptoRow = true := by kernel_rfl
theorem c6_18 : (fun (P : Program) (f : FuncId) (fn : Func) (s : ChangeSpec) (c : OpenClaim) => (s.vars.all (P.varReadable ·) : Bool)) Tryz.prog 6 Tryz.f6 Rows.streamBuffersSpec Rows.streamBuffersUptoRow = true := by kernel_rfl
theorem c6_19 : (fun (P : Program) (f : FuncId) (fn : Func) (s : ChangeSpec) (c : OpenClaim) => (fn.resultTypes.all (fun t => P.readableRec t && decide (t < P.types.size)) : Bool)) Tryz.prog 6 Tryz.f6 Rows.streamBuffersSpec Rows.streamBuffersUptoRow = true := by kernel_rfl
theorem c6_20 : (fun (P : Program) (f : FuncId) (fn : Func) (s : ChangeSpec) (c : OpenClaim) => ((c.ifacesOut == fn.resultTypes.toList.any (P.ifacesRec ·)) : Bool)) Tryz.prog 6 Tryz.f6 Rows.streamBuffersSpec Rows.streamBuffersUptoRow = true := by kernel_rfl
theorem c6_21 : (fun (P : Program) (f : FuncId) (fn : Func) (s : ChangeSpec) (c : OpenClaim) => ((c.loopsOut == fn.resultTypes.toList.any (P.loopsFrom ·)) : Bool)) Tryz.prog 6 Tryz.f6 Rows.streamBuffersSpec Rows.streamBuffersUptoRow = true := by kernel_rfl
theorem c6_22 : (fun (P : Program) (f : FuncId) (fn : Func) (s : ChangeSpec) (c : OpenClaim) => ((c.plainKeys == P.plainKeys) : Bool)) Tryz.prog 6 Tryz.f6 Rows.streamBuffersSpec Rows.streamBuffersUptoRow = true := by kernel_rfl
theorem c6_23 : (fun (P : Program) (f : FuncId) (fn : Func) (s : ChangeSpec) (c : OpenClaim) => (c.shortTexts.isNone : Bool)) Tryz.prog 6 Tryz.f6 Rows.streamBuffersSpec Rows.streamBuffersUptoRow = true := by kernel_rfl
theorem c6_26 : (fun (P : Program) (f : FuncId) (fn : Func) (s : ChangeSpec) (c : OpenClaim) => ((c.lifted == P.liftsFinal) : Bool)) Tryz.prog 6 Tryz.f6 Rows.streamBuffersSpec Rows.streamBuffersUptoRow = true := by kernel_rfl
theorem c6_27 : (fun (P : Program) (f : FuncId) (fn : Func) (s : ChangeSpec) (c : OpenClaim) => ((P.make == some c.make) : Bool)) Tryz.prog 6 Tryz.f6 Rows.streamBuffersSpec Rows.streamBuffersUptoRow = true := by kernel_rfl
theorem c6_28 : (fun (P : Program) (f : FuncId) (fn : Func) (s : ChangeSpec) (c : OpenClaim) => ((c.kinds == (if c.domain.isEmpty then [] else fn.params.toList.map fun t => match P.underlying t with | some (.int k) => some k | _ => none)) : Bool)) Tryz.prog 6 Tryz.f6 Rows.streamBuffersSpec Rows.streamBuffersUptoRow = true := by kernel_rfl
theorem c6_29 : (fun (P : Program) (f : FuncId) (fn : Func) (s : ChangeSpec) (c : OpenClaim) => ((c.pinned == c.pinnedBy) : Bool)) Tryz.prog 6 Tryz.f6 Rows.streamBuffersSpec Rows.streamBuffersUptoRow = true := by kernel_rfl
theorem c6_30 : (fun (P : Program) (f : FuncId) (fn : Func) (s : ChangeSpec) (c : OpenClaim) => ((c.veiled == (fn.params.toList ++ s.plain.varTypes P ++ fn.resultTypes.toList).any (P.veiledRec ·)) : Bool)) Tryz.prog 6 Tryz.f6 Rows.streamBuffersSpec Rows.streamBuffersUptoRow = true := by kernel_rfl
theorem c6_31 : (fun (P : Program) (f : FuncId) (fn : Func) (s : ChangeSpec) (c : OpenClaim) => (c.veiledFits P fn.params.toList (fn.params.toList ++ s.plain.varTypes P ++ fn.resultTypes.toList) : Bool)) Tryz.prog 6 Tryz.f6 Rows.streamBuffersSpec Rows.streamBuffersUptoRow = true := by kernel_rfl
theorem c6_joined : joinedFacts Tryz.prog 6 Tryz.f6 Rows.streamBuffersSpec Rows.streamBuffersUptoRow = true :=
  joined_mk _ _ _ _ _ c6_0 sh1 sh2 c6_3 c6_4 c6_5 sh6 c6_7 sh8 c6_9 c6_10 c6_11 c6_12 c6_13 c6_14 c6_15 c6_16 c6_17 c6_18 c6_19 c6_20 c6_21 c6_22 c6_23 sh24 sh25 c6_26 c6_27 c6_28 c6_29 c6_30 c6_31
theorem c6_named : Tryz.prog.funcNamed Rows.streamBuffersUptoRow.func = some 6 := by kernel_rfl
theorem c6_func : Tryz.prog.funcs[6]? = some Tryz.f6 := by kernel_rfl
theorem c6_inst : Tryz.f6.isInstance Tryz.prog Rows.streamBuffersUptoRow.origin Rows.streamBuffersUptoRow.targs := of_decide_eq_true (by kernel_rfl)
theorem c6_wrap : Tryz.f6.isWrapper Tryz.prog Rows.streamBuffersUptoRow.wrapper Rows.streamBuffersUptoRow.mainSum := by
  unfold Func.isWrapper; rw [if_neg (of_decide_eq_false (by kernel_rfl))]; exact ⟨rfl, rfl⟩
theorem c6_goes : false = Rows.streamBuffersUptoRow.goesBy Tryz.prog := by kernel_rfl
theorem c6_text : Rows.streamBuffersUptoRow.wfByText (Rows.OpenSpec.upto Rows.streamBuffersSpec) = true := by kernel_rfl
theorem c6_inits : Tryz.prog.inits.idxOf? 6 = none := by kernel_rfl
theorem c6_res : Tryz.f6.resultTypes = #[4] := by kernel_rfl
end Go.Proofs.YtgnjidopnplbbaaGreatDoor
