/- Conditions: names. -/
import Derived.Test.YtgnjidopnplbbaaGreatDoorU6
set_option maxRecDepth 1000000
set_option linter.unusedVariables false
namespace Go.V
open Go Go.Proofs

/-- The first rune outside of a name's. -/
def firstBad (s : ByteArray) : Nat → Nat → Int
  | 0, _ => -1
  | n + 1, pos => if pos < s.size then (if ((Utf8.decode s pos).1 : Int) < 32 ∨ ((Utf8.decode s pos).1 : Int) > 126 then pos else firstBad s n (pos + (Utf8.decode s pos).2)) else -1
def bad (s : ByteArray) : Int := firstBad s (s.size + 1) 0
def nameB (s : ByteArray) : Bool := (decide ((s.size : Int) ≥ 1) && decide ((s.size : Int) ≤ 32)) && decide (bad s < 0)

/-- Calls that are run. -/
def noHints : Nat → FnHint := fun _ _ _ => Hint.no
def H0 (E : Env) : Hand := hnd E annA noHints []
def noHint : FnHint := fun _ _ => Hint.no
/-- Operations that are run on what is not known whole. -/
def symAt (l : List (Nat × Nat)) : FnHint := fun id i => match l.any (fun x => Nat.beq x.1 id && Nat.beq x.2 i) with
  | true => Hint.s
  | false => Hint.no

def F209 : List (Nat × TV) := [(1, .v (.func (.func 184) [] [])), (2, .v (.bool true)), (10, .v (.ptr 0 0))]
theorem fnLoops_209 : fnLoops Tryz.prog 209 = [.loop (lbody Tryz.prog 209 0)] := by kernel_rfl
def I209 (s : ByteArray) (pos : Nat) : Prop := ∃ n, s.size - pos < n ∧ bad s = firstBad s n pos
def X209 (s : ByteArray) : Exit → AAct → State → Prop
  | .exit 0, a, σ => bad s = -1 ∧ atFS a σ [] [] [] 1
  | .ret, a, σ => bad s ≠ -1 ∧ atFS a σ [(6, .v (.int .i64 (bad s)))] [] [] 1
  | _, _, _ => False
def li209 (s : ByteArray) : LI Nat := ⟨fun _ => F209, fun _ => [], fun p => [.siter s p], fun _ => 1, I209 s, fun p => s.size - p, fun _ => X209 s⟩
theorem vc209l (B : Nat) (w0 : World) (G : Nat → AV) (s : ByteArray) (pos : Nat) : (wpC (EV B w0 G) (H0 (EV B w0 G)) (fun _ _ _ _ => False) (annA 209) (symAt [(2, 0)]) (lbody Tryz.prog 209 0) ((li209 s).post pos) (frm ((li209 s).F pos) ((li209 s).FL pos)) (lst ((li209 s).L pos) ((li209 s).m pos))) =
 ((bcase (decide (pos < ByteArray.size s))
 (bcase (decide ((↑(Prod.fst (Utf8.decode s pos)) : Int) < 32))
 ((((bad s) = (-1)) → False) ∧
 (((TV.v (AV.int IntKind.i64 ((↑pos : Int)))) = (TV.v (AV.int IntKind.i64 (bad s)))) ∧
 ((1 = 1) ∧
 True)))
 (bcase (decide ((↑(Prod.fst (Utf8.decode s pos)) : Int) > 126) == Bool.true)
 ((((bad s) = (-1)) → False) ∧
 (((TV.v (AV.int IntKind.i64 ((↑pos : Int)))) = (TV.v (AV.int IntKind.i64 (bad s)))) ∧
 ((1 = 1) ∧
 True)))
 (∃ x'0 : Nat, (((∃ n1 : Nat, ((ByteArray.size s - x'0 < n1) ∧
 ((bad s) = (firstBad s n1 x'0)))) ∧
 (LI.μ (li209 s) x'0 < LI.μ (li209 s) pos)) ∧
 (((TV.v (AV.func (Go.Fn.func 184) [] [])) = (TV.v (AV.func (Go.Fn.func 184) [] []))) ∧
 (((TV.v (AV.bool true)) = (TV.v (AV.bool true))) ∧
 (((TV.v (AV.ptr 0 0)) = (TV.v (AV.ptr 0 0))) ∧
 ((1 = 1) ∧
 (((AObj.siter (s) (pos + Prod.snd (Utf8.decode s pos))) = (AObj.siter (s) (x'0))) ∧
 True)))))))))
 (((bad s) = (-1)) ∧
 ((1 = 1) ∧
 True)))) := by kernel_rfl
/-- What the loop comes to. -/
def L209 (s : ByteArray) : LHand := fun _ Q a σ => atFS a σ F209 [] [.siter s 0] 1 ∧ ((bad s = -1 → Q (.exit 0) (frm [] []) (lst [] 1)) ∧ (bad s ≠ -1 → Q .ret (frm [(6, .v (.int .i64 (bad s)))] []) (lst [] 1)))
theorem vc209 (B : Nat) (w0 : World) (G : Nat → AV) (s : ByteArray) (Q : AV → State → Prop) : (bodyC (EV B w0 G) (H0 (EV B w0 G)) (L209 s) annA noHint 209 [.str s, .func (.func 184) [] [], .bool true] noObj Q) =
 (((((TV.v (AV.func (Go.Fn.func 184) [] [])) = (TV.v (AV.func (Go.Fn.func 184) [] []))) ∧
 (((TV.v (AV.bool true)) = (TV.v (AV.bool true))) ∧
 (((TV.v (AV.ptr 0 0)) = (TV.v (AV.ptr 0 0))) ∧
 ((1 = 1) ∧
 (((AObj.siter (s) 0) = (AObj.siter (s) 0)) ∧
 True))))) ∧
 ((((bad s) = (-1)) → (Q (AV.int IntKind.i64 (-1)) (lst [] 1))) ∧
 ((((bad s) = (-1)) → False) → (Q (AV.int IntKind.i64 (bad s)) (lst [] 1)))))) := by kernel_rfl
def C209 : Contract := fun args σ K => ∃ s, args = [.str s, .func (.func 184) [] [], .bool true] ∧ K (.int .i64 (bad s)) σ.untok
def H154 (E : Env) : Hand := hnd E annA noHints [(209, C209)]
theorem vc154 (B : Nat) (w0 : World) (G : Nat → AV) (s : ByteArray) (Q : AV → State → Prop) : (bodyC (EV B w0 G) (H154 (EV B w0 G)) (fun _ _ _ _ => False) annA noHint 154 [.str s] noObj Q) =
 ((bcase (decide ((↑(ByteArray.size s) : Int) ≥ 1))
 (bcase (decide ((↑(ByteArray.size s) : Int) ≤ 32))
 (∃ s0 : ByteArray, (([(AV.str (s)), (AV.func (Go.Fn.func 184) [] []), (AV.bool true)] = [(AV.str (s0)), (AV.func (Go.Fn.func 184) [] []), (AV.bool true)]) ∧
 (Q (AV.bool (decide (bad s0 < 0))) (State.untok noObj))))
 (Q (AV.bool false) (noObj)))
 (Q (AV.bool false) (noObj)))) := by kernel_rfl
end Go.V
