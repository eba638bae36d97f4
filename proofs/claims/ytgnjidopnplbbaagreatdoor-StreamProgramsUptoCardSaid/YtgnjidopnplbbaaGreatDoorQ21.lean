/- A part of the proof of the statement S8 (texts brought together and shortened by a program of this work). -/
import Derived.Test.YtgnjidopnplbbaaGreatDoorQ16
import Derived.Test.YtgnjidopnplbbaaGreatDoorQ20
set_option maxRecDepth 100000
namespace Go.Proofs.YtgnjidopnplbbaaGreatDoor
open Go Go.V

theorem zQR:∀ l:List T,l.map zME=tcellL l
 | []=>rfl
 | x :: l=>by rw [List.map_cons,zQR l,tcellL]
theorem lsV_map (ls:List (List T)):(ls.map fun l=>AV.slice 4 (l.map zME) .any)=lsV ls:=by
 unfold lsV slV
 simp only [zQR]
theorem len_bulk (l:List T):l.length<=(l.map T.bulk).sum:=by
 induction l with
 | nil=>exact Nat.zero_le _
 | cons x l ih =>
  have h1:=x.size_bulk
  have h2:=x.size_pos
  simp only [List.map_cons,List.sum_cons,List.length_cons]
  omega
theorem zQS (ls:List (List T)):zQB ls+ls.length<=(ls.map fun l=>(l.map T.bulk).sum+1).sum:=by
 induction ls with
 | nil=>exact Nat.zero_le _
 | cons l ls ih =>
  have h:=len_bulk l
  have e:zQB (l :: ls)=l.length+zQB ls:=by unfold zQB; simp
  simp only [List.map_cons,List.sum_cons,List.length_cons]
  omega
end Go.Proofs.YtgnjidopnplbbaaGreatDoor
