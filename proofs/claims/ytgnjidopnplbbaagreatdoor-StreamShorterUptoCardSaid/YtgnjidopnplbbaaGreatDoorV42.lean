import Derived.Test.YtgnjidopnplbbaaGreatDoorV41
/- The merging programs: what the reference's Same says of them. -/
set_option maxRecDepth 1000000
namespace Go.V
open Go Go.Proofs

theorem same_runs0 (B:Nat) (w0:World) (G:Nat -> AV):callB (EV B w0 G) annA (fun _ => none) 300 200 (.fn 26) [progV 0,progV 0] noObj (cameB (.bool true)) = true:=by kernel_rfl
theorem same_runs1 (B:Nat) (w0:World) (G:Nat -> AV):callB (EV B w0 G) annA (fun _ => none) 300 200 (.fn 26) [progV 1,progV 1] noObj (cameB (.bool true)) = true:=by kernel_rfl
theorem same_runs2 (B:Nat) (w0:World) (G:Nat -> AV):callB (EV B w0 G) annA (fun _ => none) 300 200 (.fn 26) [progV 2,progV 2] noObj (cameB (.bool true)) = true:=by kernel_rfl
theorem same_runs3 (B:Nat) (w0:World) (G:Nat -> AV):callB (EV B w0 G) annA (fun _ => none) 300 200 (.fn 26) [progV 3,progV 3] noObj (cameB (.bool true)) = true:=by kernel_rfl
theorem same_runs4 (B:Nat) (w0:World) (G:Nat -> AV):callB (EV B w0 G) annA (fun _ => none) 300 200 (.fn 26) [progV 4,progV 4] noObj (cameB (.bool true)) = true:=by kernel_rfl
theorem same_runs5 (B:Nat) (w0:World) (G:Nat -> AV):callB (EV B w0 G) annA (fun _ => none) 300 200 (.fn 26) [progV 5,progV 5] noObj (cameB (.bool true)) = true:=by kernel_rfl
theorem same_runs6 (B:Nat) (w0:World) (G:Nat -> AV):callB (EV B w0 G) annA (fun _ => none) 300 200 (.fn 26) [progV 6,progV 6] noObj (cameB (.bool true)) = true:=by kernel_rfl
theorem same_runs7 (B:Nat) (w0:World) (G:Nat -> AV):callB (EV B w0 G) annA (fun _ => none) 300 200 (.fn 26) [progV 7,progV 7] noObj (cameB (.bool true)) = true:=by kernel_rfl
theorem same_runs8 (B:Nat) (w0:World) (G:Nat -> AV):callB (EV B w0 G) annA (fun _ => none) 300 200 (.fn 26) [progV 8,progV 8] noObj (cameB (.bool true)) = true:=by kernel_rfl

theorem procsV_len (n:Nat):(procsV n).length = n + 1:=by unfold procsV; simp
theorem procsV_take {m n:Nat} (h:m <= n):(procsV n).take (m + 1) = procsV m:=by
 unfold procsV
 rw [<-List.map_take,List.take_range,Nat.min_eq_left (by omega)]
def C25:Contract:=fun args σ K => ∃ m:Nat,args = [.int .i64 (m:Int)] /\ m <= 8 /\ K (.tuple [.agg [.slice 3 (procsV m) .nn],.int .i64 0]) σ.untok
def C26:Contract:=fun args σ K => ∃ m:Nat,args = [.agg [.slice 3 (procsV m) .nn],.agg [.slice 3 (procsV m) .nn]] /\ m <= 8 /\ K (.bool true) σ.untok
section
variable {B:Nat} {w0:World} {G:Nat -> AV}
theorem runs_of (hG:∀ i,NoId (G i)) {f lf k:Nat} {args:List AV} {r:AV} (ha:noIdL args = true) (hr:noIdB r = true) (h:callB (EV B w0 G) annA (fun _ => none) lf k (.fn f) args noObj (cameB r) = true) {σ:State} {Q:AV -> State -> Prop} (hQ:Q r σ.untok):ACalls (EV B w0 G) f args σ Q:=by
 refine ACalls.pureD 60 hG (noIdL_ok _ ha).1 (callB_ok (EV_mixed B w0 G) (T:=fun _ => none) (fun f h e => by cases e) k (.fn f) args noObj _ h) fun v σ' kk => ?_
 unfold cameB at kk
 split at kk
 ·rename_i v' hv'
  have:=AV.same_ok _ _ kk
  subst this
  exact ⟨_,_,hv',.refl _,(noIdB_ok _ hr).1,hQ⟩
 ·cases kk
variable (hG:∀ i,NoId (G i))
include hG
theorem c25_ok:ContractOk (EV B w0 G) 25 C25:=by
 rintro args σ Q ⟨m,rfl,hm,hQ⟩
 match m,hm with
 | 0,_ => exact runs_of hG (by kernel_rfl) (by kernel_rfl) (prog_runs0 B w0 G) hQ
 | 1,_ => exact runs_of hG (by kernel_rfl) (by kernel_rfl) (prog_runs1 B w0 G) hQ
 | 2,_ => exact runs_of hG (by kernel_rfl) (by kernel_rfl) (prog_runs2 B w0 G) hQ
 | 3,_ => exact runs_of hG (by kernel_rfl) (by kernel_rfl) (prog_runs3 B w0 G) hQ
 | 4,_ => exact runs_of hG (by kernel_rfl) (by kernel_rfl) (prog_runs4 B w0 G) hQ
 | 5,_ => exact runs_of hG (by kernel_rfl) (by kernel_rfl) (prog_runs5 B w0 G) hQ
 | 6,_ => exact runs_of hG (by kernel_rfl) (by kernel_rfl) (prog_runs6 B w0 G) hQ
 | 7,_ => exact runs_of hG (by kernel_rfl) (by kernel_rfl) (prog_runs7 B w0 G) hQ
 | 8,_ => exact runs_of hG (by kernel_rfl) (by kernel_rfl) (prog_runs8 B w0 G) hQ
theorem c26_ok:ContractOk (EV B w0 G) 26 C26:=by
 rintro args σ Q ⟨m,rfl,hm,hQ⟩
 match m,hm with
 | 0,_ => exact runs_of hG (by kernel_rfl) (by kernel_rfl) (same_runs0 B w0 G) hQ
 | 1,_ => exact runs_of hG (by kernel_rfl) (by kernel_rfl) (same_runs1 B w0 G) hQ
 | 2,_ => exact runs_of hG (by kernel_rfl) (by kernel_rfl) (same_runs2 B w0 G) hQ
 | 3,_ => exact runs_of hG (by kernel_rfl) (by kernel_rfl) (same_runs3 B w0 G) hQ
 | 4,_ => exact runs_of hG (by kernel_rfl) (by kernel_rfl) (same_runs4 B w0 G) hQ
 | 5,_ => exact runs_of hG (by kernel_rfl) (by kernel_rfl) (same_runs5 B w0 G) hQ
 | 6,_ => exact runs_of hG (by kernel_rfl) (by kernel_rfl) (same_runs6 B w0 G) hQ
 | 7,_ => exact runs_of hG (by kernel_rfl) (by kernel_rfl) (same_runs7 B w0 G) hQ
 | 8,_ => exact runs_of hG (by kernel_rfl) (by kernel_rfl) (same_runs8 B w0 G) hQ
end
end Go.V
