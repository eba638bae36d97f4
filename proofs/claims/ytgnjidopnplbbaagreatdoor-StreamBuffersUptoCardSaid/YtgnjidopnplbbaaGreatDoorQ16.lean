import Derived.Test.YtgnjidopnplbbaaGreatDoorQ15
import Derived.Test.YtgnjidopnplbbaaGreatDoorQ8
import Derived.Test.YtgnjidopnplbbaaGreatDoorQ11
/- Conditions: the law StreamSizes. -/
set_option maxRecDepth 1000000
set_option linter.unusedVariables false
namespace Go.V
open Go Go.Proofs

theorem vc23nil (B : Nat) (w0 : World) (G : Nat → AV) (N : Nat) (Q : AV → State → Prop) : (bodyC (EV B w0 G) (H33 (EV B w0 G) N) (loopC (EV B w0 G) (H33 (EV B w0 G) N) 23 none (fnTmps Tryz.prog 23) (annA 23) noHint 5) annA noHint 23 [.nilslice, .nilslice] noObj Q) =
 ((Q (AV.bool true) (noObj))) := by kernel_rfl
theorem vc23one (B : Nat) (w0 : World) (G : Nat → AV) (N : Nat) (k : Nat) (t : T) (Q : AV → State → Prop) : (bodyC (EV B w0 G) (H33 (EV B w0 G) N) (loopC (EV B w0 G) (H33 (EV B w0 G) N) 23 none (fnTmps Tryz.prog 23) (annA 23) noHint 5) annA noHint 23 [.slice 6 [dealV k t] .full, .slice 6 [dealV k t] .full] noObj Q) =
 ((bcase (((((k) : Nat) : Int) : Int) != (((k) : Nat) : Int))
 (Q (AV.bool false) (noObj))
 (bcase (((((k) : Nat) : Int) : Int) != (((k) : Nat) : Int))
 (Q (AV.bool false) (noObj))
 (∃ a0 : T, (∃ b1 : T, (([(AV.agg [(AV.int IntKind.i64 (T.k t)), (AV.int IntKind.i64 (T.n t)), (AV.str (T.s t)), (AV.slice 4 (tcellL (T.l t)) Cap.any)]), (AV.agg [(AV.int IntKind.i64 (T.k t)), (AV.int IntKind.i64 (T.n t)), (AV.str (T.s t)), (AV.slice 4 (tcellL (T.l t)) Cap.any)])] = [(AV.agg [(AV.int IntKind.i64 (T.k a0)), (AV.int IntKind.i64 (T.n a0)), (AV.str (T.s a0)), (AV.slice 4 (tcellL (T.l a0)) Cap.any)]), (AV.agg [(AV.int IntKind.i64 (T.k b1)), (AV.int IntKind.i64 (T.n b1)), (AV.str (T.s b1)), (AV.slice 4 (tcellL (T.l b1)) Cap.any)])]) ∧
 (((T.small a0) ∧
 (((SizeOf.sizeOf a0) : Nat) < (N))) ∧
 (bcase (!(same a0 b1))
 (Q (AV.bool false) (State.untok (noObj)))
 (Q (AV.bool true) (State.untok (noObj))))))))))) := by kernel_rfl
def C23 : Contract := fun args σ K => ∃ (l : List (Nat × T)), args = [dealsV l, dealsV l] ∧ (l.length ≤ 1 ∧ ∀ x ∈ l, x.2.small) ∧ K (.bool true) σ.untok
def C16 : Contract := fun args σ K => args = [] ∧ K (.bool true) σ.untok
def H4 (E : Env) : Hand := hnd E annA noHints [(16, C16), (22, C22), (24, C24), (23, C23)]

/-- What comes to a buffer. -/
structure Came where
  ask : Bool
  t : T
def cc (c : Came) : List AV := .bool c.ask :: tc c.t
def cameL (l : List Came) : List AV := l.map fun c => .agg (cc c)
def N4 : FnHint := fun id i => match (Nat.beq id 12 && Nat.beq i 2) || ((Nat.beq id 17 || Nat.beq id 18) && Nat.beq i 3) with
  | true => Hint.as (fun c : Came => .vptr (cc c))
  | false => Hint.no

structure X4 where
  i : Nat
  σ : State
  ra : Option Nat
  rb : Option Nat
  s : BS
  r2 : Int
def X4.sb (x : X4) : BS := { x.s with room := x.r2 }
structure X4.Inv (x : X4) : Prop where
  i : x.i ≤ 150
  wf : x.s.wf
  a : BufAt x.σ 0 x.ra x.s
  b : BufAt x.σ 1 x.rb x.sb
  ra1 : x.ra ≠ some 1
  rb0 : x.rb ≠ some 0
  ne : ∀ j, x.ra = some j → x.rb ≠ some j
def ls4 (l : List Came) : LS X4 where
  F x := [(2, .v (.slice 5 (cameL l) .any)), (7, .v (.ptr 0 0)), (9, .v (.ptr 1 0)), (11, .v (.int .i64 x.i))]
  FL _ := []
  S x := x.σ
  I x := x.Inv
  μ x := 150 - x.i
  Ex _ e a σ := match e with
    | .exit 0 => True
    | _ => False
theorem fnLoops_4 : fnLoops Tryz.prog 4 = [.loop (lbody Tryz.prog 4 0)] := by kernel_rfl
theorem vc4l (B : Nat) (w0 : World) (G : Nat → AV) (l : List Came) (x : X4) : (wpC (EV B w0 G) (H4 (EV B w0 G)) (fun _ _ _ _ => False) (annA 4) N4 (lbody Tryz.prog 4 0) ((ls4 l).post x) (frm ((ls4 l).F x) ((ls4 l).FL x)) ((ls4 l).S x)) =
 ((bcase (decide (((((X4.i x) : Nat) : Int) : Int) < (((List.length (cameL l)) : Nat) : Int)))
 (bcase (decide (((((X4.i x) : Nat) : Int) : Int) < 150))
 ((((0 : Int) ≤ (((X4.i x) : Nat) : Int)) ∧
 (((((X4.i x) : Nat) : Int) : Int) < (((List.length (cameL l)) : Nat) : Int))) ∧
 (∃ x0 : Came, (((AV.vptr (AV.cells (List.getD (cameL l) (Int.toNat (↑(X4.i x) : Int)) AV.undef))) = (AV.vptr [(AV.bool (Came.ask x0)), (AV.int IntKind.i64 (T.k (Came.t x0))), (AV.int IntKind.i64 (T.n (Came.t x0))), (AV.str (T.s (Came.t x0))), (AV.slice 4 (tcellL (T.l (Came.t x0))) Cap.any)])) ∧
 (bcase (Came.ask x0)
 (∃ b1 : Nat, (∃ r2 : Option Nat, (∃ s3 : BS, (([(AV.ptr 0 0)] = [(AV.ptr (b1) 0)]) ∧
 (((BufAt ((ls4 l).3 x) (b1) (r2) (s3)) ∧
 (BS.wf s3)) ∧
 (∀ r'4 : Option Nat, (∀ σ'5 : State, (((BufAt σ'5 (b1) (r'4) (Prod.snd (BS.ask s3))) ∧
 (Keeps ((ls4 l).3 x) σ'5 (b1) (r2) (r'4))) → (∃ b6 : Nat, (∃ r7 : Option Nat, (∃ s8 : BS, (([(AV.ptr 1 0)] = [(AV.ptr (b6) 0)]) ∧
 (((BufAt σ'5 (b6) (r7) (s8)) ∧
 (BS.wf s8)) ∧
 (∀ r'9 : Option Nat, (∀ σ'10 : State, (((BufAt σ'10 (b6) (r'9) (Prod.snd (BS.ask s8))) ∧
 (Keeps σ'5 σ'10 (b6) (r7) (r'9))) → (bcase (((((BS.askN s3) : Nat) : Int) : Int) != (((BS.askN s8) : Nat) : Int))
 False
 (∃ l11 : List (Nat × T), (([(dealsV (BS.askL s3)), (dealsV (BS.askL s8))] = [(dealsV l11), (dealsV l11)]) ∧
 (((((List.length (l11)) : Nat) ≤ 1) ∧
 (∀ x12 : Nat × T, ((x12 ∈ l11) → (T.small (Prod.snd x12))))) ∧
 (bcase (((BS.askE s3) : Int) != (BS.askE s8))
 False
 (∃ x'12 : X4, (((LS.I (ls4 l) x'12) ∧
 (((LS.μ (ls4 l) x'12) : Nat) < (LS.μ (ls4 l) x))) ∧
 (((TV.v (AV.slice 5 (cameL l) Cap.any)) = (TV.v (AV.slice 5 (cameL l) Cap.any))) ∧
 (((TV.v (AV.ptr 0 0)) = (TV.v (AV.ptr 0 0))) ∧
 (((TV.v (AV.ptr 1 0)) = (TV.v (AV.ptr 1 0))) ∧
 (((TV.v (AV.int IntKind.i64 (IntKind.wrap IntKind.i64 ((((X4.i x) : Nat) : Int) + 1)))) = (TV.v (AV.int IntKind.i64 (((X4.i x'12) : Nat) : Int)))) ∧
 (State.Le ((ls4 l).3 x'12) (State.untok σ'10)))))))))))))))))))))))))))))
 ((((0 : Int) ≤ (((X4.i x) : Nat) : Int)) ∧
 (((((X4.i x) : Nat) : Int) : Int) < (((List.length (cameL l)) : Nat) : Int))) ∧
 (∃ x1 : Came, (((AV.vptr (AV.cells (List.getD (cameL l) (Int.toNat (↑(X4.i x) : Int)) AV.undef))) = (AV.vptr [(AV.bool (Came.ask x1)), (AV.int IntKind.i64 (T.k (Came.t x1))), (AV.int IntKind.i64 (T.n (Came.t x1))), (AV.str (T.s (Came.t x1))), (AV.slice 4 (tcellL (T.l (Came.t x1))) Cap.any)])) ∧
 (∃ b2 : Nat, (∃ r3 : Option Nat, (∃ s4 : BS, (∃ t5 : T, (([(AV.ptr 0 0), (AV.agg [(AV.int IntKind.i64 (T.k (Came.t x1))), (AV.int IntKind.i64 (T.n (Came.t x1))), (AV.str (T.s (Came.t x1))), (AV.slice 4 (tcellL (T.l (Came.t x1))) Cap.any)])] = [(AV.ptr (b2) 0), (AV.agg [(AV.int IntKind.i64 (T.k t5)), (AV.int IntKind.i64 (T.n t5)), (AV.str (T.s t5)), (AV.slice 4 (tcellL (T.l t5)) Cap.any)])]) ∧
 (((BufAt ((ls4 l).3 x) (b2) (r3) (s4)) ∧
 (BS.wf s4)) ∧
 (∀ r'6 : Option Nat, (∀ σ'7 : State, (((BufAt σ'7 (b2) (r'6) (Prod.snd (BS.put s4 t5))) ∧
 (Keeps ((ls4 l).3 x) σ'7 (b2) (r3) (r'6))) → ((((0 : Int) ≤ (((X4.i x) : Nat) : Int)) ∧
 (((((X4.i x) : Nat) : Int) : Int) < (((List.length (cameL l)) : Nat) : Int))) ∧
 (∃ x8 : Came, (((AV.vptr (AV.cells (List.getD (cameL l) (Int.toNat (↑(X4.i x) : Int)) AV.undef))) = (AV.vptr [(AV.bool (Came.ask x8)), (AV.int IntKind.i64 (T.k (Came.t x8))), (AV.int IntKind.i64 (T.n (Came.t x8))), (AV.str (T.s (Came.t x8))), (AV.slice 4 (tcellL (T.l (Came.t x8))) Cap.any)])) ∧
 (∃ b9 : Nat, (∃ r10 : Option Nat, (∃ s11 : BS, (∃ t12 : T, (([(AV.ptr 1 0), (AV.agg [(AV.int IntKind.i64 (T.k (Came.t x8))), (AV.int IntKind.i64 (T.n (Came.t x8))), (AV.str (T.s (Came.t x8))), (AV.slice 4 (tcellL (T.l (Came.t x8))) Cap.any)])] = [(AV.ptr (b9) 0), (AV.agg [(AV.int IntKind.i64 (T.k t12)), (AV.int IntKind.i64 (T.n t12)), (AV.str (T.s t12)), (AV.slice 4 (tcellL (T.l t12)) Cap.any)])]) ∧
 (((BufAt σ'7 (b9) (r10) (s11)) ∧
 (BS.wf s11)) ∧
 (∀ r'13 : Option Nat, (∀ σ'14 : State, (((BufAt σ'14 (b9) (r'13) (Prod.snd (BS.put s11 t12))) ∧
 (Keeps σ'7 σ'14 (b9) (r10) (r'13))) → (bcase (((((BS.putN s4 t5) : Nat) : Int) : Int) != (((BS.putN s11 t12) : Nat) : Int))
 False
 (∃ l15 : List (Nat × T), (([(dealsV (BS.putL s4 t5)), (dealsV (BS.putL s11 t12))] = [(dealsV l15), (dealsV l15)]) ∧
 (((((List.length (l15)) : Nat) ≤ 1) ∧
 (∀ x16 : Nat × T, ((x16 ∈ l15) → (T.small (Prod.snd x16))))) ∧
 (bcase (((BS.putE s4 t5) : Int) != (BS.putE s11 t12))
 False
 (∃ x'16 : X4, (((LS.I (ls4 l) x'16) ∧
 (((LS.μ (ls4 l) x'16) : Nat) < (LS.μ (ls4 l) x))) ∧
 (((TV.v (AV.slice 5 (cameL l) Cap.any)) = (TV.v (AV.slice 5 (cameL l) Cap.any))) ∧
 (((TV.v (AV.ptr 0 0)) = (TV.v (AV.ptr 0 0))) ∧
 (((TV.v (AV.ptr 1 0)) = (TV.v (AV.ptr 1 0))) ∧
 (((TV.v (AV.int IntKind.i64 (IntKind.wrap IntKind.i64 ((((X4.i x) : Nat) : Int) + 1)))) = (TV.v (AV.int IntKind.i64 (((X4.i x'16) : Nat) : Int)))) ∧
 (State.Le ((ls4 l).3 x'16) (State.untok σ'14)))))))))))))))))))))))))))))))))))))))))
 True)
 True)) := by kernel_rfl
def L4 (l : List Came) : LHand := fun _ Q a σ => ∃ x : X4, x.Inv ∧ atF a ((ls4 l).F x) [] (x.σ.Le σ) ∧ ∀ σ2 : State, Q (.exit 0) (frm [] []) σ2
theorem vc4 (B : Nat) (w0 : World) (G : Nat → AV) (m n : Int) (l : List Came) (Q : AV → State → Prop) : (bodyC (EV B w0 G) (H4 (EV B w0 G)) (L4 l) annA noHint 4 [.int .i64 m, .int .i64 n, .slice 5 (cameL l) .any] noObj Q) =
 (((([] : List AV) = []) ∧
 (bcase (decide (((m) : Int) < 0))
 (Q (AV.bool true) (State.untok (noObj)))
 (bcase (decide (((m) : Int) > 1000))
 (Q (AV.bool true) (State.untok (noObj)))
 (bcase (decide (((n) : Int) < 0))
 (Q (AV.bool true) (State.untok (noObj)))
 (bcase (decide (((n) : Int) > 1000))
 (Q (AV.bool true) (State.untok (noObj)))
 (bcase (decide (((m) : Int) < 0))
 (bcase (decide (((n) : Int) < 0))
 (Q (AV.bool false) (State.untok (noObj)))
 (bcase (decide (((n) : Int) > 1000))
 (Q (AV.bool false) (State.untok (noObj)))
 (Q (AV.bool false) (State.new (State.untok (noObj)) (AObj.cells [(AV.int IntKind.i64 (n)), (AV.int IntKind.i64 0), (AV.int IntKind.i64 0), (AV.int IntKind.i64 0), AV.nilslice, (AV.int IntKind.i64 0)] 129 6 false)))))
 (bcase (decide (((m) : Int) > 1000))
 (bcase (decide (((n) : Int) < 0))
 (Q (AV.bool false) (State.untok (noObj)))
 (bcase (decide (((n) : Int) > 1000))
 (Q (AV.bool false) (State.untok (noObj)))
 (Q (AV.bool false) (State.new (State.untok (noObj)) (AObj.cells [(AV.int IntKind.i64 (n)), (AV.int IntKind.i64 0), (AV.int IntKind.i64 0), (AV.int IntKind.i64 0), AV.nilslice, (AV.int IntKind.i64 0)] 129 6 false)))))
 (bcase (decide (((n) : Int) < 0))
 (Q (AV.bool false) (State.new (State.untok (noObj)) (AObj.cells [(AV.int IntKind.i64 (m)), (AV.int IntKind.i64 0), (AV.int IntKind.i64 0), (AV.int IntKind.i64 0), AV.nilslice, (AV.int IntKind.i64 0)] 129 6 false)))
 (bcase (decide (((n) : Int) > 1000))
 (Q (AV.bool false) (State.new (State.untok (noObj)) (AObj.cells [(AV.int IntKind.i64 (m)), (AV.int IntKind.i64 0), (AV.int IntKind.i64 0), (AV.int IntKind.i64 0), AV.nilslice, (AV.int IntKind.i64 0)] 129 6 false)))
 (∃ x0 : X4, ((X4.Inv x0) ∧
 ((((TV.v (AV.slice 5 (cameL l) Cap.any)) = (TV.v (AV.slice 5 (cameL l) Cap.any))) ∧
 (((TV.v (AV.ptr 0 0)) = (TV.v (AV.ptr 0 0))) ∧
 (((TV.v (AV.ptr 1 0)) = (TV.v (AV.ptr 1 0))) ∧
 (((TV.v (AV.int IntKind.i64 0)) = (TV.v (AV.int IntKind.i64 (((X4.i x0) : Nat) : Int)))) ∧
 (State.Le (x0.2) (State.new (State.new (State.untok (noObj)) (AObj.cells [(AV.int IntKind.i64 (m)), (AV.int IntKind.i64 0), (AV.int IntKind.i64 0), (AV.int IntKind.i64 0), AV.nilslice, (AV.int IntKind.i64 0)] 129 6 false)) (AObj.cells [(AV.int IntKind.i64 (n)), (AV.int IntKind.i64 0), (AV.int IntKind.i64 0), (AV.int IntKind.i64 0), AV.nilslice, (AV.int IntKind.i64 0)] 129 6 false))))))) ∧
 (∀ σ21 : State, (Q (AV.bool true) σ21))))))))))))))) := by kernel_rfl
end Go.V
/- The law StreamSizes: its walk. -/
set_option maxRecDepth 1000000
set_option linter.unusedVariables false
set_option linter.unusedSimpArgs false
set_option linter.unusedSectionVars false
namespace Go.V
open Go Go.Proofs

theorem untok_cells {σ : State} {b : Nat} {cs : List AV} {e sz : Nat} {g : Bool} (h : σ.objs b = .cells cs e sz g) : σ.untok.objs b = .cells cs e sz g := by
  unfold State.untok; dsimp only; rw [h]
theorem untok_at {σ : State} {b : Nat} {r : Option Nat} {s : BS} (h : BufAt σ b r s) : BufAt σ.untok b r s := by
  obtain ⟨h1, q, fr, h2, h3⟩ := h
  refine ⟨h1, q, fr, untok_cells h2, ?_⟩
  cases h3 with
  | nil h => exact .nil h
  | row r pre fr hb hr ho hp hl hn h1 => exact .row r pre fr hb hr (untok_cells ho) hp hl hn h1
theorem keep_at {σ σ' : State} {b b2 : Nat} {r r' r2 : Option Nat} {s2 : BS} (k : Keeps σ σ' b r r') (h : BufAt σ b2 r2 s2) (hb : b2 ≠ b) (hr : some b2 ≠ r) (hrow : ∀ j, r2 = some j → j ≠ b ∧ some j ≠ r) : BufAt σ' b2 r2 s2 := by
  obtain ⟨h1, q, fr, h2, h3⟩ := h
  have hn := k.next
  refine ⟨by omega, q, fr, by rw [k.objs b2 h1 hb hr]; exact untok_cells h2, ?_⟩
  cases h3 with
  | nil h => exact .nil h
  | row r0 pre fr hb' hr' ho hp hl hn' h1' =>
    obtain ⟨k1, k2⟩ := hrow r0 rfl
    exact .row r0 pre fr hb' (by omega) (by rw [k.objs r0 hr' k1 k2]; exact untok_cells ho) hp hl hn' h1'
theorem row_lt {σ : State} {b j : Nat} {r : Option Nat} {s : BS} (h : BufAt σ b r s) (hr : r = some j) : j < σ.next := by
  subst hr
  obtain ⟨_, q, fr, _, h3⟩ := h
  cases h3 with
  | row _ _ _ _ hr => exact hr

theorem ask_room (s : BS) (r : Int) : (BS.ask { s with room := r }).2 = { s.ask.2 with room := r } := by
  cases s with
  | mk room came deal asked pend =>
    simp only [BS.ask]
    split
    · rfl
    · cases pend with
      | nil => rfl
      | cons x p => simp only [BS.dealt]; split <;> rfl
theorem put_room (s : BS) (t : T) (r : Int) : (BS.put { s with room := r } t).2 = { (s.put t).2 with room := r } := by
  cases s with
  | mk room came deal asked pend =>
    simp only [BS.put]
    split
    · rfl
    · split
      · rfl
      · cases pend with
        | nil => simp only [BS.dealt, List.nil_append]; split <;> rfl
        | cons x p => simp only [BS.dealt, List.cons_append]; split <;> rfl
theorem wf_room {s : BS} (h : s.wf) (r : Int) : BS.wf { s with room := r } := ⟨h.came, h.asked, h.deal, h.pend, h.small⟩

/-- Behind a step on the first buffer, and then one on the second. -/
theorem X4.Inv.first {x : X4} (h : x.Inv) {σ' : State} {r' : Option Nat} (k : Keeps x.σ σ' 0 x.ra r') : BufAt σ' 1 x.rb x.sb :=
  keep_at k h.b (by omega) (fun e => h.ra1 e.symm) fun j hj => ⟨fun e => h.rb0 (by rw [hj, e]), fun e => h.ne j e.symm hj⟩
theorem X4.Inv.step {x : X4} (h : x.Inv) (hi : x.i < 150) {σ' σ2 : State} {r' r2' : Option Nat} {s' sb' : BS} (h1 : BufAt σ' 0 r' s') (k1 : Keeps x.σ σ' 0 x.ra r') (h2 : BufAt σ2 1 r2' sb') (k2 : Keeps σ' σ2 1 x.rb r2')
    (hw : s'.wf) (hs : sb' = { s' with room := x.r2 }) : X4.Inv ⟨x.i + 1, σ2.untok, r', r2', s', x.r2⟩ := by
  have hn1 := k1.next
  have hn2 := k2.next
  have hb1 := h.b.1
  have r1 : r' ≠ some 1 := fun e => by
    rcases k1.row 1 e with e' | e'
    · exact h.ra1 e'
    · omega
  have rne : ∀ j, r' = some j → x.rb ≠ some j := fun j e e2 => by
    rcases k1.row j e with e' | e'
    · exact h.ne j e' e2
    · have := row_lt h.b e2; omega
  refine ⟨hi, hw, untok_at (keep_at k2 h1 (by omega) (fun e => h.rb0 e.symm) fun j hj => ⟨fun e => r1 (hj.trans (by rw [e])), fun e => rne j hj e.symm⟩), untok_at (by subst hs; exact h2), r1, fun e => ?_, fun j e e2 => ?_⟩
  · rcases k2.row 0 e with e' | e'
    · exact h.rb0 e'
    · have := h1.1; omega
  · rcases k2.row j e2 with e' | e'
    · exact rne j e e'
    · have := row_lt h1 e; omega

theorem cameL_get {l : List Came} {i : Nat} (h : i < l.length) : (AV.vptr (AV.cells (List.getD (cameL l) i AV.undef))) = AV.vptr (cc l[i]) := by
  unfold cameL
  rw [List.getD, List.getElem?_map, List.getElem?_eq_getElem h]; rfl

section
variable {B : Nat} {w0 : World}

theorem c23_ok : ContractOk (EV B w0 G1) 23 C23 := by
  rintro args σ Q ⟨l, rfl, ⟨h1, hs⟩, hQ⟩
  have hnid : NoId (dealsV l) := by
    cases l with
    | nil => exact .nilslice
    | cons x l =>
      obtain ⟨k, t⟩ := x
      have hl : l = [] := List.length_eq_zero_iff.1 (by simp only [List.length_cons] at h1; omega)
      subst hl
      refine .slice (by simp) fun y hy => ?_
      simp only [flat, List.map_nil, List.flatMap_cons, List.flatMap_nil, List.append_nil] at hy
      exact (dealV_noId _ _).2 y hy
  refine pure_of G1_noId (fun v hv => by
    simp only [List.mem_cons, List.not_mem_nil, or_false] at hv
    rcases hv with rfl | rfl <;> exact hnid) (.bool _) (fun Q hQ => ?_) hQ
  cases l with
  | nil =>
    have hH : HOk1 (EV B w0 G1) (H33 (EV B w0 G1) 0) := hnd_ok (EV_mixed B w0 G1) (contracts_cons (c33_ok G1_noId 0) contracts_nil)
    exact bodyC_ok (EV_mixed B w0 G1) hH (fun l _ hc Q a σ k => loopC_ok hH (EV_mixed B w0 G1) 23 5 l hc Q a σ k) ((vc23nil B w0 G1 0 Q).mpr (hQ _))
  | cons x l =>
    obtain ⟨k, t⟩ := x
    have hl : l = [] := List.length_eq_zero_iff.1 (by simp only [List.length_cons] at h1; omega)
    subst hl
    have hst : t.small := hs (k, t) (by simp)
    have hH : HOk1 (EV B w0 G1) (H33 (EV B w0 G1) (SizeOf.sizeOf t + 1)) := hnd_ok (EV_mixed B w0 G1) (contracts_cons (c33_ok G1_noId _) contracts_nil)
    refine bodyC_ok (EV_mixed B w0 G1) hH (fun l _ hc Q a σ k => loopC_ok hH (EV_mixed B w0 G1) 23 5 l hc Q a σ k) ((vc23one B w0 G1 (SizeOf.sizeOf t + 1) k t Q).mpr ?_)
    refine bcase_of (fun h => by simp at h) (fun _ => bcase_of (fun h => by simp at h) (fun _ => ⟨t, t, rfl, ⟨hst, Nat.lt_succ_self _⟩, bcase_of (fun h => ?_) (fun _ => hQ _)⟩))
    rw [same_refl_aux.1 t] at h; cases h

theorem c16_ok : ContractOk (EV B w0 G1) 16 C16 := by
  rintro args σ Q ⟨rfl, hQ⟩
  exact sane_ok B w0 hQ

theorem H4_ok : HOk1 (EV B w0 G1) (H4 (EV B w0 G1)) := hnd_ok (EV_mixed B w0 G1) (contracts_cons c16_ok (contracts_cons (c22_ok G1_noId) (contracts_cons (c24_ok G1_noId) (contracts_cons c23_ok contracts_nil))))

theorem askL_len (s : BS) : s.askL.length ≤ 1 := by
  unfold BS.askL
  split
  · simp
  · unfold BS.dealL; split
    · split <;> simp
    · simp
theorem putL_len (s : BS) (t : T) : (s.putL t).length ≤ 1 := by
  unfold BS.putL
  split
  · simp
  · split
    · simp
    · unfold BS.dealL; split
      · split <;> simp
      · simp

theorem loop4 {l : List Came} (Q : Post) (a : AAct) (σ : State) (h : L4 l (.loop (lbody Tryz.prog 4 0)) Q a σ) : AWp (EV B w0 G1) none (fnTmps Tryz.prog 4) (.loop (lbody Tryz.prog 4 0)) Q a σ := by
  obtain ⟨x0, h0, h1, h2⟩ := h
  refine awp_loopS (ls4 l) (x0 := x0) (fun x hI => body_wp (EV_mixed B w0 G1) H4_ok (by kernel_rfl) (by kernel_rfl) ((vc4l B w0 G1 l x).mpr ?_)) (fun z hI e a σ hne k => ?_) h0 h1
  · have hI : x.Inv := hI
    have hlen : (cameL l).length = l.length := List.length_map _
    rw [hlen]
    refine bcase_of (fun hb => bcase_of (fun hb2 => ?_) (fun _ => trivial)) (fun _ => trivial)
    have hb : x.i < l.length := by simpa using hb
    have hb2 : x.i < 150 := by have := of_decide_eq_true hb2; omega
    have hg : (AV.vptr (AV.cells (List.getD (cameL l) (Int.toNat (x.i : Int)) AV.undef))) = AV.vptr (cc l[x.i]) := by rw [Int.toNat_natCast]; exact cameL_get hb
    have hwr : IntKind.wrap .i64 ((x.i : Int) + 1) = ((x.i + 1 : Nat) : Int) := wr_nat (by omega)
    refine ⟨⟨by omega, by omega⟩, l[x.i], hg, bcase_of (fun _ => ?_) (fun _ => ?_)⟩
    · refine ⟨0, x.ra, x.s, rfl, ⟨hI.a, hI.wf⟩, fun r' σ' ⟨a1, k1⟩ => ⟨1, x.rb, x.sb, rfl, ⟨hI.first k1, wf_room hI.wf x.r2⟩, fun r2' σ2 ⟨a2, k2⟩ => bcase_of (fun h => ?_) (fun _ => ⟨x.s.askL, rfl, ⟨askL_len _, askL_small hI.wf⟩, bcase_of (fun h => ?_) (fun _ => ?_)⟩)⟩⟩
      · have : (x.s.askN : Int) ≠ x.sb.askN := by simpa using h
        exact this rfl
      · have : x.s.askE ≠ x.sb.askE := by simpa using h
        exact this rfl
      · exact ⟨⟨x.i + 1, σ2.untok, r', r2', x.s.ask.2, x.r2⟩, ⟨hI.step hb2 a1 k1 a2 k2 (ask_wf hI.wf) (ask_room x.s x.r2), show 150 - (x.i + 1) < 150 - x.i by omega⟩, rfl, rfl, rfl, by rw [hwr], .refl _⟩
    · refine ⟨⟨by omega, by omega⟩, l[x.i], hg, 0, x.ra, x.s, l[x.i].t, rfl, ⟨hI.a, hI.wf⟩, fun r' σ' ⟨a1, k1⟩ => ⟨⟨by omega, by omega⟩, l[x.i], hg, 1, x.rb, x.sb, l[x.i].t, rfl, ⟨hI.first k1, wf_room hI.wf x.r2⟩, fun r2' σ2 ⟨a2, k2⟩ => bcase_of (fun h => ?_) (fun _ => ⟨x.s.putL l[x.i].t, rfl, ⟨putL_len _ _, putL_small hI.wf _⟩, bcase_of (fun h => ?_) (fun _ => ?_)⟩)⟩⟩
      · have : (x.s.putN l[x.i].t : Int) ≠ x.sb.putN l[x.i].t := by simpa using h
        exact this rfl
      · have : x.s.putE l[x.i].t ≠ x.sb.putE l[x.i].t := by simpa using h
        exact this rfl
      · exact ⟨⟨x.i + 1, σ2.untok, r', r2', (x.s.put l[x.i].t).2, x.r2⟩, ⟨hI.step hb2 a1 k1 a2 k2 (put_wf hI.wf _) (put_room x.s _ x.r2), show 150 - (x.i + 1) < 150 - x.i by omega⟩, rfl, rfl, rfl, by rw [hwr], .refl _⟩
  · cases e with
    | exit id =>
      cases id with
      | zero => exact ⟨frm [] [], σ, ⟨fun t => .inl rfl⟩, .refl _, h2 σ⟩
      | succ id => exact k.elim
    | normal => exact absurd rfl hne
    | _ => exact k.elim

/-- StreamSizes returns true. -/
theorem sizes_ok (m n : Int) (l : List Came) : ACalls (EV B w0 G1) 4 [.int .i64 m, .int .i64 n, .slice 5 (cameL l) .any] noObj (fun v _ => v = .bool true) := by
  refine bodyC_ok (EV_mixed B w0 G1) H4_ok (fun lp hl _ Q a σ k => ?_) ((vc4 B w0 G1 m n l _).mpr ⟨rfl, bcase_of (fun _ => rfl) (fun h1 => bcase_of (fun _ => rfl) (fun h2 => bcase_of (fun _ => rfl) (fun h3 => bcase_of (fun _ => rfl) (fun h4 => ?_))))⟩)
  · change lp ∈ fnLoops Tryz.prog 4 at hl
    rw [fnLoops_4] at hl
    simp only [List.mem_cons, List.not_mem_nil, or_false] at hl
    subst hl
    exact loop4 Q a σ k
  · refine bcase_of (fun h => by rw [h1] at h; cases h) (fun _ => bcase_of (fun h => by rw [h2] at h; cases h) (fun _ => bcase_of (fun h => by rw [h3] at h; cases h) (fun _ => bcase_of (fun h => by rw [h4] at h; cases h) (fun _ => ?_))))
    have wf0 : BS.wf ⟨m, 0, 0, 0, []⟩ := ⟨by show 0 ≤ 20000; omega, by show 0 ≤ 20000; omega, Nat.le_refl _, rfl, by simp⟩
    exact ⟨⟨0, _, none, none, ⟨m, 0, 0, 0, []⟩, n⟩, ⟨Nat.zero_le _, wf0, ⟨show 0 < 2 by decide, _, 0, rfl, .nil rfl⟩, ⟨show 1 < 2 by decide, _, 0, rfl, .nil rfl⟩, by simp, by simp, by simp⟩, ⟨rfl, rfl, rfl, rfl, .refl _⟩, fun _ => rfl⟩
end
end Go.V
