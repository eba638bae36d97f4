import Derived.Test.YtgnjidopnplbbaaGreatDoorG17
import Derived.Test.YtgnjidopnplbbaaGreatDoorG36
/- What StreamShorter reads, as abstract values. -/
set_option maxRecDepth 100000
namespace Go.Proofs.YtgnjidopnplbbaaGreatDoor
open Go Go.V

theorem tcellL_map:∀ l:List T,l.map tcell = tcellL l
 | [] => rfl
 | x :: l => by rw [List.map_cons,tcellL_map l,tcellL]
theorem lsV_map (ls:List (List T)):(ls.map fun l => AV.slice 4 (l.map tcell) .any) = lsV ls:=by
 unfold lsV slV
 simp only [tcellL_map]
theorem len_bulk (l:List T):l.length <= (l.map T.bulk).sum:=by
 induction l with
 | nil => exact Nat.zero_le _
 | cons x l ih =>
  have h1:=x.size_bulk
  have h2:=x.size_pos
  simp only [List.map_cons,List.sum_cons,List.length_cons]
  omega
theorem sumL_bulk (ls:List (List T)):sumL ls + ls.length <= (ls.map fun l => (l.map T.bulk).sum + 1).sum:=by
 induction ls with
 | nil => exact Nat.zero_le _
 | cons l ls ih =>
  have h:=len_bulk l
  have e:sumL (l :: ls) = l.length + sumL ls:=by unfold sumL; simp
  simp only [List.map_cons,List.sum_cons,List.length_cons]
  omega
section
variable {H:Type} {enc:TypeId × Value -> H} {W:World} {sp:Nat -> Bool} {held:Bool}
end
end Go.Proofs.YtgnjidopnplbbaaGreatDoor
