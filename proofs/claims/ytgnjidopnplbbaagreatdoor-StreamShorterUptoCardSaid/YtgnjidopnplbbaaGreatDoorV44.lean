import Derived.Test.YtgnjidopnplbbaaGreatDoorV17
import Derived.Test.YtgnjidopnplbbaaGreatDoorV36
/- What StreamShorter reads, as abstract values. -/
set_option maxRecDepth 100000
namespace Go.Proofs.YtgnjidopnplbbaaGreatDoor
open Go Go.V

theorem tcellL_map:∀ l:List T,l.map tcell = tcellL l
 | [] => rfl
 | x :: l => by rw [List.map_cons,tcellL_map l,tcellL]
theorem lsV_map (ls:List (List T)):(ls.map fun l => AV.slice 4 (l.map tcell) .any) = lsV ls:=by
 unfold lsV slV
 simp only [tcellL_map]
theorem len_bulk (l:List T):l.length <= (l.map T.bulk).sum:=by
 induction l with
 | nil => exact Nat.zero_le _
 | cons x l ih =>
  have h1:=x.size_bulk
  have h2:=x.size_pos
  simp only [List.map_cons,List.sum_cons,List.length_cons]
  omega
theorem sumL_bulk (ls:List (List T)):sumL ls + ls.length <= (ls.map fun l => (l.map T.bulk).sum + 1).sum:=by
 induction ls with
 | nil => exact Nat.zero_le _
 | cons l ls ih =>
  have h:=len_bulk l
  have e:sumL (l :: ls) = l.length + sumL ls:=by unfold sumL; simp
  simp only [List.map_cons,List.sum_cons,List.length_cons]
  omega
structure Sh where
 m:Int
 n:Int
 ls:List (List T)
 out:List T
def shC (x:Sh):List AV:=[.int .i64 x.m,.int .i64 x.n,.slice 1 (lsV x.ls) .any,slV x.out]
section
variable {H:Type} {enc:TypeId × Value -> H} {W:World} {sp:Nat -> Bool} {held:Bool}
theorem pull_47 (n:Nat):Pull enc Tryz.prog W sp held n 47 shC (fun x => sumL x.ls + x.ls.length):=by
 cases n with
 | zero => exact pull_zero
 | succ n => exact pull_map (pull_struct fo47 (by simp) co47 (pullF_cons co3 (pull_int un3) (pullF_cons co3 (pull_int un3) (pullF_cons co22 (pull_22 n) (pullF_cons co23 (pull_23 n) pullF_nil))))) (fun x => Sh.mk x.1 x.2.1 x.2.2.1 x.2.2.2.1) (fun x => by simp only [shC,<-lsV_map,slV,<-tcellL_map]; rfl) (fun x => by have:=sumL_bulk x.2.2.1; dsimp only; omega)
end
end Go.Proofs.YtgnjidopnplbbaaGreatDoor
