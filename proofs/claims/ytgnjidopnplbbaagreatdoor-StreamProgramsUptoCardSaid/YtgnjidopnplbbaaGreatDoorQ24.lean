/- A part of the proof of the statement S8 (texts brought together and shortened by a program of this work). -/
import Derived.Test.YtgnjidopnplbbaaGreatDoorQ23
set_option maxRecDepth 1000000
set_option linter.unusedVariables false
set_option linter.unusedSimpArgs false
set_option linter.unusedSectionVars false


namespace Go.V
open Go Go.Proofs

theorem zR5 (n:Nat):List.flatten (List.replicate (Int.toNat (n:Int)) (AV.cells (av (Go.Value.int .i64 0))))=zP2 (List.replicate n 0):=by
 rw [Int.toNat_natCast]; exact ints0 n
theorem zR6 (n:Nat):List.flatten (List.replicate (Int.toNat (n:Int)) (AV.cells (av (Go.Value.int .i64 0))))=zP9 (List.replicate n 0):=by
 rw [zR5,intsV_Z,List.map_replicate]; rfl

end Go.V
