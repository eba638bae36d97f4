/- A part of the proof of the statement S8 (texts brought together and shortened by a program of this work). -/
import Derived.Test.YtgnjidopnplbbaaGreatDoorQ17
set_option maxRecDepth 100000
set_option linter.unusedVariables false
namespace Go.Proofs.YtgnjidopnplbbaaGreatDoor
open Go

theorem c8_0:(fun (P:Program) (f:FuncId) (fn:Func) (s:ChangeSpec) (c:OpenClaim)=>(c.wf (OpenSpec.ofChange s):Bool)) Tryz.prog 8 Tryz.f8 Rows.streamProgramsSpec Rows.streamProgramsUptoRow=true:=by kernel_rfl
theorem c8_3:(fun (P:Program) (f:FuncId) (fn:Func) (s:ChangeSpec) (c:OpenClaim)=>(fn.params.all (P.readableRec ·):Bool)) Tryz.prog 8 Tryz.f8 Rows.streamProgramsSpec Rows.streamProgramsUptoRow=true:=by kernel_rfl
theorem c8_4:(fun (P:Program) (f:FuncId) (fn:Func) (s:ChangeSpec) (c:OpenClaim)=>(namedTie P c.named s.vars:Bool)) Tryz.prog 8 Tryz.f8 Rows.streamProgramsSpec Rows.streamProgramsUptoRow=true:=by kernel_rfl
theorem c8_5:(fun (P:Program) (f:FuncId) (fn:Func) (s:ChangeSpec) (c:OpenClaim)=>((c.stops==[]):Bool)) Tryz.prog 8 Tryz.f8 Rows.streamProgramsSpec Rows.streamProgramsUptoRow=true:=by kernel_rfl
theorem c8_7:(fun (P:Program) (f:FuncId) (fn:Func) (s:ChangeSpec) (c:OpenClaim)=>((c.knobs==[]):Bool)) Tryz.prog 8 Tryz.f8 Rows.streamProgramsSpec Rows.streamProgramsUptoRow=true:=by kernel_rfl
theorem c8_9:(fun (P:Program) (f:FuncId) (fn:Func) (s:ChangeSpec) (c:OpenClaim)=>((c.inPlace==P.inPlace f):Bool)) Tryz.prog 8 Tryz.f8 Rows.streamProgramsSpec Rows.streamProgramsUptoRow=true:=by kernel_rfl
theorem c8_10:(fun (P:Program) (f:FuncId) (fn:Func) (s:ChangeSpec) (c:OpenClaim)=>((c.unfollowed==P.unfollowed f):Bool)) Tryz.prog 8 Tryz.f8 Rows.streamProgramsSpec Rows.streamProgramsUptoRow=true:=by kernel_rfl
theorem c8_11:(fun (P:Program) (f:FuncId) (fn:Func) (s:ChangeSpec) (c:OpenClaim)=>((c.recurses==P.recurses f):Bool)) Tryz.prog 8 Tryz.f8 Rows.streamProgramsSpec Rows.streamProgramsUptoRow=true:=by kernel_rfl
theorem c8_12:(fun (P:Program) (f:FuncId) (fn:Func) (s:ChangeSpec) (c:OpenClaim)=>((c.named==P.varsNamed f):Bool)) Tryz.prog 8 Tryz.f8 Rows.streamProgramsSpec Rows.streamProgramsUptoRow=true:=by kernel_rfl
theorem c8_13:(fun (P:Program) (f:FuncId) (fn:Func) (s:ChangeSpec) (c:OpenClaim)=>((c.maps==(fn.params.toList++s.plain.varTypes P).any (P.mapsRec ·)):Bool)) Tryz.prog 8 Tryz.f8 Rows.streamProgramsSpec Rows.streamProgramsUptoRow=true:=by kernel_rfl
theorem c8_14:(fun (P:Program) (f:FuncId) (fn:Func) (s:ChangeSpec) (c:OpenClaim)=>((c.ifaces==(fn.params.toList++s.plain.varTypes P).any (P.ifacesRec ·)):Bool)) Tryz.prog 8 Tryz.f8 Rows.streamProgramsSpec Rows.streamProgramsUptoRow=true:=by kernel_rfl
theorem c8_15:(fun (P:Program) (f:FuncId) (fn:Func) (s:ChangeSpec) (c:OpenClaim)=>((c.mapsOut==P.mapsAmong fn.resultTypes.toList):Bool)) Tryz.prog 8 Tryz.f8 Rows.streamProgramsSpec Rows.streamProgramsUptoRow=true:=by kernel_rfl
theorem c8_16:(fun (P:Program) (f:FuncId) (fn:Func) (s:ChangeSpec) (c:OpenClaim)=>((c.loops==(fn.params.toList++s.plain.varTypes P).any (P.loopsFrom ·)):Bool)) Tryz.prog 8 Tryz.f8 Rows.streamProgramsSpec Rows.streamProgramsUptoRow=true:=by kernel_rfl
theorem c8_17:(fun (P:Program) (f:FuncId) (fn:Func) (s:ChangeSpec) (c:OpenClaim)=>((c.wideKeys==(fn.params.toList++s.plain.varTypes P++fn.resultTypes.toList).any (P.wideKeysFrom ·)):Bool)) Tryz.prog 8 Tryz.f8 Rows.streamProgramsSpec Rows.streamProgramsUptoRow=true:=by kernel_rfl
theorem c8_18:(fun (P:Program) (f:FuncId) (fn:Func) (s:ChangeSpec) (c:OpenClaim)=>(s.vars.all (P.varReadable ·):Bool)) Tryz.prog 8 Tryz.f8 Rows.streamProgramsSpec Rows.streamProgramsUptoRow=true:=by kernel_rfl
theorem c8_19:(fun (P:Program) (f:FuncId) (fn:Func) (s:ChangeSpec) (c:OpenClaim)=>(fn.resultTypes.all (fun t=>P.readableRec t&&decide (t<P.types.size)):Bool)) Tryz.prog 8 Tryz.f8 Rows.streamProgramsSpec Rows.streamProgramsUptoRow=true:=by kernel_rfl
theorem c8_20:(fun (P:Program) (f:FuncId) (fn:Func) (s:ChangeSpec) (c:OpenClaim)=>((c.ifacesOut==fn.resultTypes.toList.any (P.ifacesRec ·)):Bool)) Tryz.prog 8 Tryz.f8 Rows.streamProgramsSpec Rows.streamProgramsUptoRow=true:=by kernel_rfl
theorem c8_21:(fun (P:Program) (f:FuncId) (fn:Func) (s:ChangeSpec) (c:OpenClaim)=>((c.loopsOut==fn.resultTypes.toList.any (P.loopsFrom ·)):Bool)) Tryz.prog 8 Tryz.f8 Rows.streamProgramsSpec Rows.streamProgramsUptoRow=true:=by kernel_rfl
theorem c8_22:(fun (P:Program) (f:FuncId) (fn:Func) (s:ChangeSpec) (c:OpenClaim)=>((c.plainKeys==P.plainKeys):Bool)) Tryz.prog 8 Tryz.f8 Rows.streamProgramsSpec Rows.streamProgramsUptoRow=true:=by kernel_rfl
theorem c8_23:(fun (P:Program) (f:FuncId) (fn:Func) (s:ChangeSpec) (c:OpenClaim)=>(c.shortTexts.isNone:Bool)) Tryz.prog 8 Tryz.f8 Rows.streamProgramsSpec Rows.streamProgramsUptoRow=true:=by kernel_rfl
theorem c8_26:(fun (P:Program) (f:FuncId) (fn:Func) (s:ChangeSpec) (c:OpenClaim)=>((c.lifted==P.liftsFinal):Bool)) Tryz.prog 8 Tryz.f8 Rows.streamProgramsSpec Rows.streamProgramsUptoRow=true:=by kernel_rfl
theorem c8_27:(fun (P:Program) (f:FuncId) (fn:Func) (s:ChangeSpec) (c:OpenClaim)=>((P.make==some c.make):Bool)) Tryz.prog 8 Tryz.f8 Rows.streamProgramsSpec Rows.streamProgramsUptoRow=true:=by kernel_rfl
theorem c8_28:(fun (P:Program) (f:FuncId) (fn:Func) (s:ChangeSpec) (c:OpenClaim)=>((c.kinds==(if c.domain.isEmpty then [] else fn.params.toList.map fun t=>match P.underlying t with | some (.int k)=>some k | _=>none)):Bool)) Tryz.prog 8 Tryz.f8 Rows.streamProgramsSpec Rows.streamProgramsUptoRow=true:=by kernel_rfl
theorem c8_29:(fun (P:Program) (f:FuncId) (fn:Func) (s:ChangeSpec) (c:OpenClaim)=>((c.pinned==c.pinnedBy):Bool)) Tryz.prog 8 Tryz.f8 Rows.streamProgramsSpec Rows.streamProgramsUptoRow=true:=by kernel_rfl
theorem c8_30:(fun (P:Program) (f:FuncId) (fn:Func) (s:ChangeSpec) (c:OpenClaim)=>((c.veiled==(fn.params.toList++s.plain.varTypes P++fn.resultTypes.toList).any (P.veiledRec ·)):Bool)) Tryz.prog 8 Tryz.f8 Rows.streamProgramsSpec Rows.streamProgramsUptoRow=true:=by kernel_rfl
theorem c8_31:(fun (P:Program) (f:FuncId) (fn:Func) (s:ChangeSpec) (c:OpenClaim)=>(c.veiledFits P fn.params.toList (fn.params.toList++s.plain.varTypes P++fn.resultTypes.toList):Bool)) Tryz.prog 8 Tryz.f8 Rows.streamProgramsSpec Rows.streamProgramsUptoRow=true:=by kernel_rfl
theorem zeU:joinedFacts Tryz.prog 8 Tryz.f8 Rows.streamProgramsSpec Rows.streamProgramsUptoRow=true :=
 zP1 _ _ _ _ _ c8_0 sh1 sh2 c8_3 c8_4 c8_5 sh6 c8_7 sh8 c8_9 c8_10 c8_11 c8_12 c8_13 c8_14 c8_15 c8_16 c8_17 c8_18 c8_19 c8_20 c8_21 c8_22 c8_23 sh24 sh25 c8_26 c8_27 c8_28 c8_29 c8_30 c8_31
theorem zeV:Tryz.prog.funcNamed Rows.streamProgramsUptoRow.func=some 8:=by kernel_rfl
theorem zeW:Tryz.prog.funcs[8]? = some Tryz.f8:=by kernel_rfl
theorem c8_inst:Tryz.f8.isInstance Tryz.prog Rows.streamProgramsUptoRow.origin Rows.streamProgramsUptoRow.targs:=of_decide_eq_true (by kernel_rfl)
theorem c8_wrap:Tryz.f8.isWrapper Tryz.prog Rows.streamProgramsUptoRow.wrapper Rows.streamProgramsUptoRow.mainSum:=by
 unfold Func.isWrapper; rw [if_neg (of_decide_eq_false (by kernel_rfl))]; exact ⟨rfl,rfl⟩
theorem c8_goes:false=Rows.streamProgramsUptoRow.goesBy Tryz.prog:=by kernel_rfl
theorem c8_text:Rows.streamProgramsUptoRow.wfByText (Rows.OpenSpec.upto Rows.streamProgramsSpec)=true:=by kernel_rfl
theorem c8_inits:Tryz.prog.inits.idxOf? 8=none:=by kernel_rfl
theorem c8_res:Tryz.f8.resultTypes=#[4]:=by kernel_rfl
end Go.Proofs.YtgnjidopnplbbaaGreatDoor
