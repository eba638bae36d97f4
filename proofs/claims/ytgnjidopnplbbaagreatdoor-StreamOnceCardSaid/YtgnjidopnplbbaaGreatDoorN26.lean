import Derived.Test.YtgnjidopnplbbaaGreatDoorN16
import Derived.Test.YtgnjidopnplbbaaGreatDoorN25
/- A run of a merger, read as abstract values. -/
set_option maxRecDepth 100000
namespace Go.Proofs.YtgnjidopnplbbaaGreatDoor
open Go Go.V

def runC (x:Int × List Ev):List AV:=[.int .i64 x.1,.slice 7 (evL x.2) .any]
section
variable {H:Type} {enc:TypeId × Value -> H} {W:World} {sp:Nat -> Bool} {held:Bool}
theorem pull_96 (n:Nat):Pull enc Tryz.prog W sp held n 96 evc (fun e => e.t.bulk):=by
 cases n with
 | zero => exact pull_zero
 | succ n => exact pull_map (pull_struct fo96 (by simp) co96 (pullF_cons co3 (pull_int un3) (pullF_cons co3 (pull_int un3) (pullF_cons co3 (pull_int un3) (pullF_cons co37 (pull_37 n) pullF_nil))))) (fun x => Ev.mk x.1 x.2.1 x.2.2.1 x.2.2.2.1) (fun x => by simp [evc,tc]) (fun x => by simp; omega)
theorem pull_92 (n:Nat):Pull enc Tryz.prog W sp held n 92 (fun l:List Ev => [.slice 7 (evL l) .any]) (fun l => (l.map fun e => e.t.bulk).sum + 1):=by
 cases n with
 | zero => exact pull_zero
 | succ n => exact pull_slice un92 co96 (by omega) (fun a => rfl) (fun a => rfl) (fun a => rfl) (pull_96 n)
theorem pull_94 (n:Nat):Pull enc Tryz.prog W sp held n 94 runC (fun x => (x.2.map fun e => e.t.bulk).sum + 1):=by
 cases n with
 | zero => exact pull_zero
 | succ n => exact pull_map (pull_struct fo94 (by simp) co94 (pullF_cons co3 (pull_int un3) (pullF_cons co92 (pull_92 n) pullF_nil))) (fun x => (x.1,x.2.1)) (fun x => by simp [runC]) (fun x => by simp; omega)
end
end Go.Proofs.YtgnjidopnplbbaaGreatDoor
