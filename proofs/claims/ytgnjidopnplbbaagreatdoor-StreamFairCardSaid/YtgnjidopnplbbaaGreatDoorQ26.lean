import Derived.Test.YtgnjidopnplbbaaGreatDoorQ16
/- Facts of the program and of a row, each a reckoning. Printed by a program of this work (facts.py). -/
set_option maxRecDepth 100000
set_option linter.unusedVariables false
namespace Go.Proofs.YtgnjidopnplbbaaGreatDoor
open Go

theorem c11_0 : (fun (P : Program) (f : FuncId) (fn : Func) (s : ChangeSpec) (c : OpenClaim) => (c.wf (OpenSpec.ofChange s) : Bool)) Tryz.prog 11 Tryz.f11 Rows.streamFairSpec Rows.streamFairRow = true := by kernel_rfl
theorem c11_3 : (fun (P : Program) (f : FuncId) (fn : Func) (s : ChangeSpec) (c : OpenClaim) => (fn.params.all (P.readableRec ·) : Bool)) Tryz.prog 11 Tryz.f11 Rows.streamFairSpec Rows.streamFairRow = true := by kernel_rfl
theorem c11_4 : (fun (P : Program) (f : FuncId) (fn : Func) (s : ChangeSpec) (c : OpenClaim) => (namedTie P c.named s.vars : Bool)) Tryz.prog 11 Tryz.f11 Rows.streamFairSpec Rows.streamFairRow = true := by kernel_rfl
theorem c11_5 : (fun (P : Program) (f : FuncId) (fn : Func) (s : ChangeSpec) (c : OpenClaim) => ((c.stops == []) : Bool)) Tryz.prog 11 Tryz.f11 Rows.streamFairSpec Rows.streamFairRow = true := by kernel_rfl
theorem c11_7 : (fun (P : Program) (f : FuncId) (fn : Func) (s : ChangeSpec) (c : OpenClaim) => ((c.knobs == []) : Bool)) Tryz.prog 11 Tryz.f11 Rows.streamFairSpec Rows.streamFairRow = true := by kernel_rfl
theorem c11_9 : (fun (P : Program) (f : FuncId) (fn : Func) (s : ChangeSpec) (c : OpenClaim) => ((c.inPlace == P.inPlace f) : Bool)) Tryz.prog 11 Tryz.f11 Rows.streamFairSpec Rows.streamFairRow = true := by kernel_rfl
theorem c11_10 : (fun (P : Program) (f : FuncId) (fn : Func) (s : ChangeSpec) (c : OpenClaim) => ((c.unfollowed == P.unfollowed f) : Bool)) Tryz.prog 11 Tryz.f11 Rows.streamFairSpec Rows.streamFairRow = true := by kernel_rfl
theorem c11_11 : (fun (P : Program) (f : FuncId) (fn : Func) (s : ChangeSpec) (c : OpenClaim) => ((c.recurses == P.recurses f) : Bool)) Tryz.prog 11 Tryz.f11 Rows.streamFairSpec Rows.streamFairRow = true := by kernel_rfl
theorem c11_12 : (fun (P : Program) (f : FuncId) (fn : Func) (s : ChangeSpec) (c : OpenClaim) => ((c.named == P.varsNamed f) : Bool)) Tryz.prog 11 Tryz.f11 Rows.streamFairSpec Rows.streamFairRow = true := by kernel_rfl
theorem c11_13 : (fun (P : Program) (f : FuncId) (fn : Func) (s : ChangeSpec) (c : OpenClaim) => ((c.maps == (fn.params.toList ++ s.plain.varTypes P).any (P.mapsRec ·)) : Bool)) Tryz.prog 11 Tryz.f11 Rows.streamFairSpec Rows.streamFairRow = true := by kernel_rfl
theorem c11_14 : (fun (P : Program) (f : FuncId) (fn : Func) (s : ChangeSpec) (c : OpenClaim) => ((c.ifaces == (fn.params.toList ++ s.plain.varTypes P).any (P.ifacesRec ·)) : Bool)) Tryz.prog 11 Tryz.f11 Rows.streamFairSpec Rows.streamFairRow = true := by kernel_rfl
theorem c11_15 : (fun (P : Program) (f : FuncId) (fn : Func) (s : ChangeSpec) (c : OpenClaim) => ((c.mapsOut == P.mapsAmong fn.resultTypes.toList) : Bool)) Tryz.prog 11 Tryz.f11 Rows.streamFairSpec Rows.streamFairRow = true := by kernel_rfl
theorem c11_16 : (fun (P : Program) (f : FuncId) (fn : Func) (s : ChangeSpec) (c : OpenClaim) => ((c.loops == (fn.params.toList ++ s.plain.varTypes P).any (P.loopsFrom ·)) : Bool)) Tryz.prog 11 Tryz.f11 Rows.streamFairSpec Rows.streamFairRow = true := by kernel_rfl
theorem c11_17 : (fun (P : Program) (f : FuncId) (fn : Func) (s : ChangeSpec) (c : OpenClaim) => ((c.wideKeys == (fn.params.toList ++ s.plain.varTypes P ++ fn.resultTypes.toList).any (P.wideKeysFrom ·)) : Bool)) Tryz.prog 11 Tryz.f11 Rows.streamFairSpec Rows.streamFairRow = true := by kernel_rfl
theorem c11_18 : (fun (P : Program) (f : FuncId) (fn : Func) (s : ChangeSpec) (c : OpenClaim) => (s.vars.all (P.varReadable ·) : Bool)) Tryz.prog 11 Tryz.f11 Rows.streamFairSpec Rows.streamFairRow = true := by kernel_rfl
theorem c11_19 : (fun (P : Program) (f : FuncId) (fn : Func) (s : ChangeSpec) (c : OpenClaim) => (fn.resultTypes.all (fun t => P.readableRec t && decide (t < P.types.size)) : Bool)) Tryz.prog 11 Tryz.f11 Rows.streamFairSpec Rows.streamFairRow = true := by kernel_rfl
theorem c11_20 : (fun (P : Program) (f : FuncId) (fn : Func) (s : ChangeSpec) (c : OpenClaim) => ((c.ifacesOut == fn.resultTypes.toList.any (P.ifacesRec ·)) : Bool)) Tryz.prog 11 Tryz.f11 Rows.streamFairSpec Rows.streamFairRow = true := by kernel_rfl
theorem c11_21 : (fun (P : Program) (f : FuncId) (fn : Func) (s : ChangeSpec) (c : OpenClaim) => ((c.loopsOut == fn.resultTypes.toList.any (P.loopsFrom ·)) : Bool)) Tryz.prog 11 Tryz.f11 Rows.streamFairSpec Rows.streamFairRow = true := by kernel_rfl
theorem c11_22 : (fun (P : Program) (f : FuncId) (fn : Func) (s : ChangeSpec) (c : OpenClaim) => ((c.plainKeys == P.plainKeys) : Bool)) Tryz.prog 11 Tryz.f11 Rows.streamFairSpec Rows.streamFairRow = true := by kernel_rfl
theorem c11_23 : (fun (P : Program) (f : FuncId) (fn : Func) (s : ChangeSpec) (c : OpenClaim) => (c.shortTexts.isNone : Bool)) Tryz.prog 11 Tryz.f11 Rows.streamFairSpec Rows.streamFairRow = true := by kernel_rfl
theorem c11_26 : (fun (P : Program) (f : FuncId) (fn : Func) (s : ChangeSpec) (c : OpenClaim) => ((c.lifted == P.liftsFinal) : Bool)) Tryz.prog 11 Tryz.f11 Rows.streamFairSpec Rows.streamFairRow = true := by kernel_rfl
theorem c11_27 : (fun (P : Program) (f : FuncId) (fn : Func) (s : ChangeSpec) (c : OpenClaim) => ((P.make == some c.make) : Bool)) Tryz.prog 11 Tryz.f11 Rows.streamFairSpec Rows.streamFairRow = true := by kernel_rfl
theorem c11_28 : (fun (P : Program) (f : FuncId) (fn : Func) (s : ChangeSpec) (c : OpenClaim) => ((c.kinds == (if c.domain.isEmpty then [] else fn.params.toList.map fun t => match P.underlying t with | some (.int k) => some k | _ => none)) : Bool)) Tryz.prog 11 Tryz.f11 Rows.streamFairSpec Rows.streamFairRow = true := by kernel_rfl
theorem c11_29 : (fun (P : Program) (f : FuncId) (fn : Func) (s : ChangeSpec) (c : OpenClaim) => ((c.pinned == c.pinnedBy) : Bool)) Tryz.prog 11 Tryz.f11 Rows.streamFairSpec Rows.streamFairRow = true := by kernel_rfl
theorem c11_30 : (fun (P : Program) (f : FuncId) (fn : Func) (s : ChangeSpec) (c : OpenClaim) => ((c.veiled == (fn.params.toList ++ s.plain.varTypes P ++ fn.resultTypes.toList).any (P.veiledRec ·)) : Bool)) Tryz.prog 11 Tryz.f11 Rows.streamFairSpec Rows.streamFairRow = true := by kernel_rfl
theorem c11_31 : (fun (P : Program) (f : FuncId) (fn : Func) (s : ChangeSpec) (c : OpenClaim) => (c.veiledFits P fn.params.toList (fn.params.toList ++ s.plain.varTypes P ++ fn.resultTypes.toList) : Bool)) Tryz.prog 11 Tryz.f11 Rows.streamFairSpec Rows.streamFairRow = true := by kernel_rfl
theorem c11_joined : joinedFacts Tryz.prog 11 Tryz.f11 Rows.streamFairSpec Rows.streamFairRow = true :=
  joined_mk _ _ _ _ _ c11_0 sh1 sh2 c11_3 c11_4 c11_5 sh6 c11_7 sh8 c11_9 c11_10 c11_11 c11_12 c11_13 c11_14 c11_15 c11_16 c11_17 c11_18 c11_19 c11_20 c11_21 c11_22 c11_23 sh24 sh25 c11_26 c11_27 c11_28 c11_29 c11_30 c11_31
theorem c11_named : Tryz.prog.funcNamed Rows.streamFairRow.func = some 11 := by kernel_rfl
theorem c11_func : Tryz.prog.funcs[11]? = some Tryz.f11 := by kernel_rfl
theorem c11_inst : Tryz.f11.isInstance Tryz.prog Rows.streamFairRow.origin Rows.streamFairRow.targs := of_decide_eq_true (by kernel_rfl)
theorem c11_wrap : Tryz.f11.isWrapper Tryz.prog Rows.streamFairRow.wrapper Rows.streamFairRow.mainSum := by
  unfold Func.isWrapper; rw [if_neg (of_decide_eq_false (by kernel_rfl))]; exact ⟨rfl, rfl⟩
theorem c11_goes : false = Rows.streamFairRow.goesBy Tryz.prog := by kernel_rfl
theorem c11_text : Rows.streamFairRow.wfByText (OpenSpec.ofChange Rows.streamFairSpec) = true := by kernel_rfl
theorem c11_inits : Tryz.prog.inits.idxOf? 11 = none := by kernel_rfl
theorem c11_res : Tryz.f11.resultTypes = #[4] := by kernel_rfl
end Go.Proofs.YtgnjidopnplbbaaGreatDoor
