import Derived.Test.YtgnjidopnplbbaaGreatDoorV16
/- The merging programs, as values. -/
set_option maxRecDepth 1000000
namespace Go.V
open Go Go.Proofs

def vV (n:Nat):AV:=.agg [.int .i64 1,.int .i64 (n:Int),.str ⟨⟨[]⟩⟩,.nilslice]
def funV (s:List UInt8) (l:List AV) (c:Cap):AV:=.agg [.int .i64 5,.int .i64 0,.str ⟨⟨s⟩⟩,.slice 4 l c]
def nilV:AV:=.agg [.int .i64 3,.int .i64 0,.str ⟨⟨[91,93]⟩⟩,.nilslice]
def eqV (t u:AV):AV:=funV [61] [t,u] .full
def cellV (t u:AV):AV:=funV [46] [t,u] .full
def mergeV (l:List AV):AV:=funV [109,101,114,103,101] l .nn
def clauseV (vars:Nat) (head:AV) (body:List AV):AV:=.agg [.int .i64 0,.int .i64 (vars:Int),head,.nilslice,.slice 4 body .full]
def takeV (k i:Nat):AV :=
 clauseV (k + 3) (.slice 4 ((List.range k).map (fun j => if j < i then vV j else if j = i then cellV (vV i) (vV (i + 1)) else vV (j + 1)) ++ [vV (k + 1)]) .nn)
  [eqV (vV (k + 1)) (cellV (vV i) (vV (k + 2))),mergeV ((List.range k).map (fun j => if j < i then vV j else vV (j + 1)) ++ [vV (k + 2)])]
def endV (k i:Nat):AV :=
 clauseV k (.slice 4 ((List.range k).map (fun j => if j < i then vV j else if j = i then nilV else vV (j - 1)) ++ [vV (k - 1)]) .nn)
  [mergeV ((List.range (k - 1)).map vV ++ [vV (k - 1)])]
def clausesV (k:Nat):AV:=match k with
 | 0 => .slice 5 [clauseV 1 (.slice 4 [vV 0] .full) [eqV (vV 0) nilV]] .full
 | k + 1 => .slice 5 ((List.range (k + 1)).map (takeV (k + 1)) ++ (List.range (k + 1)).map (endV (k + 1))) .nn
def procsV (n:Nat):List AV:=(List.range (n + 1)).map fun k => .agg [.str ⟨⟨[109,101,114,103,101]⟩⟩,.int .i64 ((k + 1:Nat):Int),clausesV k]
def progV (n:Nat):AV:=.agg [.slice 3 (procsV n) .nn]
theorem prog_runs0 (B:Nat) (w0:World) (G:Nat -> AV):callB (EV B w0 G) annA (fun _ => none) 300 200 (.fn 25) [.int .i64 0] noObj (cameB (.tuple [progV 0,.int .i64 0])) = true:=by kernel_rfl
theorem prog_runs1 (B:Nat) (w0:World) (G:Nat -> AV):callB (EV B w0 G) annA (fun _ => none) 300 200 (.fn 25) [.int .i64 1] noObj (cameB (.tuple [progV 1,.int .i64 0])) = true:=by kernel_rfl
theorem prog_runs2 (B:Nat) (w0:World) (G:Nat -> AV):callB (EV B w0 G) annA (fun _ => none) 300 200 (.fn 25) [.int .i64 2] noObj (cameB (.tuple [progV 2,.int .i64 0])) = true:=by kernel_rfl
theorem prog_runs3 (B:Nat) (w0:World) (G:Nat -> AV):callB (EV B w0 G) annA (fun _ => none) 300 200 (.fn 25) [.int .i64 3] noObj (cameB (.tuple [progV 3,.int .i64 0])) = true:=by kernel_rfl
theorem prog_runs4 (B:Nat) (w0:World) (G:Nat -> AV):callB (EV B w0 G) annA (fun _ => none) 300 200 (.fn 25) [.int .i64 4] noObj (cameB (.tuple [progV 4,.int .i64 0])) = true:=by kernel_rfl
theorem prog_runs5 (B:Nat) (w0:World) (G:Nat -> AV):callB (EV B w0 G) annA (fun _ => none) 300 200 (.fn 25) [.int .i64 5] noObj (cameB (.tuple [progV 5,.int .i64 0])) = true:=by kernel_rfl
theorem prog_runs6 (B:Nat) (w0:World) (G:Nat -> AV):callB (EV B w0 G) annA (fun _ => none) 300 200 (.fn 25) [.int .i64 6] noObj (cameB (.tuple [progV 6,.int .i64 0])) = true:=by kernel_rfl
theorem prog_runs7 (B:Nat) (w0:World) (G:Nat -> AV):callB (EV B w0 G) annA (fun _ => none) 300 200 (.fn 25) [.int .i64 7] noObj (cameB (.tuple [progV 7,.int .i64 0])) = true:=by kernel_rfl
theorem prog_runs8 (B:Nat) (w0:World) (G:Nat -> AV):callB (EV B w0 G) annA (fun _ => none) 300 200 (.fn 25) [.int .i64 8] noObj (cameB (.tuple [progV 8,.int .i64 0])) = true:=by kernel_rfl
end Go.V
