import Derived.Test.YtgnjidopnplbbaaGreatDoorQ26
import Derived.Test.YtgnjidopnplbbaaGreatDoorQ16
/- Conditions: the law StreamSplits. -/
set_option maxRecDepth 1000000
set_option linter.unusedVariables false
namespace Go.V
open Go Go.Proofs

def intsZ (l : List Int) : List AV := l.map fun i => AV.int .i64 i
structure YS where
  σ : State
  c : MH
  M : Nat
  m : RM
  i : Nat
def hT9 : Hint := Hint.as (fun t : T => .vptr (tc t))
def hInt64 : Hint := Hint.as (fun n : Int => .vptr [.int .i64 n])

def H9 (E : Env) (S : Nat) : Hand := hnd E annA noHints [(16, C16), (41, C41r), (42, C42r), (43, C43r), (44, C44s), (32, C32), (33, C33 S)]
def ls9 (n : Int) (picks : List Int) (l : List T) (ins : List Nat) (I : YS → Prop) : LS YS where
  F y := [(0, .v (.int .i64 n)), (1, .v (.slice 1 (intsZ picks) .any)), (2, .v (.slice 4 (tcellL l) .any)), (7, .v (.ptr y.M 0)), (9, .v (.slice 1 (intsV ins) .any)), (10, .v (.int .i64 (y.i : Int)))]
  FL _ := []
  S y := y.σ
  I := I
  μ y := l.length - y.i
  Ex y e a σ := match e with
    | .exit 0 => True
    | _ => False
def N9 : FnHint := hAt [(14, 3, hInt64), (14, 8, Hint.s), (14, 9, hNat), (15, 4, hT9), (16, 2, hT9), (19, 13, hT9)]
theorem fnParts_9 : fnParts Tryz.prog [] 9 = [.loop (bodyOf (fnPart Tryz.prog [] 9 0))] := by kernel_rfl
theorem vc9l (B : Nat) (w0 : World) (G : Nat → AV) (S : Nat) (n : Int) (picks : List Int) (l : List T) (ins : List Nat) (I : YS → Prop) (y : YS) : (wpX [] (EV B w0 G) (H9 (EV B w0 G) S) (fun _ _ _ _ => False) (annA 9) N9 (bodyOf (fnPart Tryz.prog [] 9 0)) ((ls9 n picks l ins I).post y) (frm [(0, .v (.int .i64 n)), (1, .v (.slice 1 (intsZ picks) .any)), (2, .v (.slice 4 (tcellL l) .any)), (7, .v (.ptr y.M 0)), (9, .v (.slice 1 (intsV ins) .any)), (10, .v (.int .i64 (y.i : Int)))] []) y.σ) =
 ((bcase (decide (((((YS.i y) : Nat) : Int) : Int) < (((List.length (tcellL l)) : Nat) : Int)))
 (bcase (decide (((((YS.i y) : Nat) : Int) : Int) < (((List.length (intsZ picks)) : Nat) : Int)))
 (bcase (decide (((((YS.i y) : Nat) : Int) : Int) < 150))
 ((((0 : Int) ≤ (((YS.i y) : Nat) : Int)) ∧
 (((((YS.i y) : Nat) : Int) : Int) < (((List.length (intsZ picks)) : Nat) : Int))) ∧
 (∃ x0 : Int, (((AV.vptr (AV.cells (List.getD (intsZ picks) (Int.toNat (↑(YS.i y) : Int)) AV.undef))) = (AV.vptr [(AV.int IntKind.i64 (x0))])) ∧
 ((((IntKind.wrap IntKind.u64 (n)) : Int) ≠ 0) ∧
 ((((0 : Int) ≤ (Int.tmod (IntKind.wrap IntKind.u64 x0) (IntKind.wrap IntKind.u64 n))) ∧
 (((Int.tmod (IntKind.wrap IntKind.u64 x0) (IntKind.wrap IntKind.u64 n)) : Int) < (((List.length (intsV ins)) : Nat) : Int))) ∧
 (∃ x1 : Nat, (((AV.vptr (AV.cells (List.getD (intsV ins) (Int.toNat (Int.tmod (IntKind.wrap IntKind.u64 x0) (IntKind.wrap IntKind.u64 n))) AV.undef))) = (AV.vptr [(AV.int IntKind.i64 (((x1) : Nat) : Int))])) ∧
 ((((0 : Int) ≤ (((YS.i y) : Nat) : Int)) ∧
 (((((YS.i y) : Nat) : Int) : Int) < (((List.length (tcellL l)) : Nat) : Int))) ∧
 (∃ x2 : T, (((AV.vptr (AV.cells (List.getD (tcellL l) (Int.toNat (↑(YS.i y) : Int)) AV.undef))) = (AV.vptr [(AV.int IntKind.i64 (T.k x2)), (AV.int IntKind.i64 (T.n x2)), (AV.str (T.s x2)), (AV.slice 4 (tcellL (T.l x2)) Cap.any)])) ∧
 (∃ c3 : MH, (∃ M4 : Nat, (∃ m5 : RM, (∃ i6 : Int, (∃ t7 : T, (([(AV.ptr (YS.M y) 0), (AV.int IntKind.i64 (((x1) : Nat) : Int)), (AV.agg [(AV.int IntKind.i64 (T.k x2)), (AV.int IntKind.i64 (T.n x2)), (AV.str (T.s x2)), (AV.slice 4 (tcellL (T.l x2)) Cap.any)])] = [(AV.ptr (M4) 0), (AV.int IntKind.i64 (i6)), (AV.agg [(AV.int IntKind.i64 (T.k t7)), (AV.int IntKind.i64 (T.n t7)), (AV.str (T.s t7)), (AV.slice 4 (tcellL (T.l t7)) Cap.any)])]) ∧
 (((At c3 (y.1)) ∧
 ((∃ L8 : ML, (∃ p9 : PM, ((((ML.M L8) : Nat) = (M4)) ∧
 ((Rep c3 L8 p9) ∧
 ((Abs p9 m5) ∧
 (RM.Wf m5)))))) ∧
 (∀ i8 : Nat, (∀ id9 : Nat, (∀ o10 : AObj, (((c3 (MRole.x i8)) = (Option.some (Prod.mk (id9) (o10)))) → ((isTok o10) = false))))))) ∧
 (∀ c'8 : MH, (∀ σ'9 : State, (((At c'8 σ'9) ∧
 ((∃ L10 : ML, (∃ p11 : PM, ((((ML.M L10) : Nat) = (M4)) ∧
 ((Rep c'8 L10 p11) ∧
 ((Abs p11 (Prod.fst (RM.put m5 i6 t7))) ∧
 (RM.Wf (Prod.fst (RM.put m5 i6 t7)))))))) ∧
 (∀ i10 : Nat, ((c'8 (MRole.x i10)) = (c3 (MRole.x i10)))))) → (bcase (((Prod.snd (RM.put m5 i6 t7)) : Int) != 0)
 ((((0 : Int) ≤ (((YS.i y) : Nat) : Int)) ∧
 (((((YS.i y) : Nat) : Int) : Int) < (((List.length (tcellL l)) : Nat) : Int))) ∧
 (∃ x10 : T, (((AV.vptr (AV.cells (List.getD (tcellL l) (Int.toNat (↑(YS.i y) : Int)) AV.undef))) = (AV.vptr [(AV.int IntKind.i64 (T.k x10)), (AV.int IntKind.i64 (T.n x10)), (AV.str (T.s x10)), (AV.slice 4 (tcellL (T.l x10)) Cap.any)])) ∧
 (∃ t11 : T, (([(AV.agg [(AV.int IntKind.i64 (T.k x10)), (AV.int IntKind.i64 (T.n x10)), (AV.str (T.s x10)), (AV.slice 4 (tcellL (T.l x10)) Cap.any)])] = [(AV.agg [(AV.int IntKind.i64 (T.k t11)), (AV.int IntKind.i64 (T.n t11)), (AV.str (T.s t11)), (AV.slice 4 (tcellL (T.l t11)) Cap.any)])]) ∧
 ((((T.bulk t11) : Nat) ≤ 1099511627776) ∧
 (bcase (((chkT t11) : Int) == 0)
 False
 (∃ x'12 : YS, (((I (x'12)) ∧
 (((LS.μ (ls9 n picks l ins I) x'12) : Nat) < (LS.μ (ls9 n picks l ins I) y))) ∧
 (((TV.v (AV.int IntKind.i64 (n))) = (TV.v (AV.int IntKind.i64 (n)))) ∧
 (((TV.v (AV.slice 1 (intsZ picks) Cap.any)) = (TV.v (AV.slice 1 (intsZ picks) Cap.any))) ∧
 (((TV.v (AV.slice 4 (tcellL l) Cap.any)) = (TV.v (AV.slice 4 (tcellL l) Cap.any))) ∧
 (((TV.v (AV.ptr (YS.M y) 0)) = (TV.v (AV.ptr (YS.M x'12) 0))) ∧
 (((TV.v (AV.slice 1 (intsV ins) Cap.any)) = (TV.v (AV.slice 1 (intsV ins) Cap.any))) ∧
 (((TV.v (AV.int IntKind.i64 (IntKind.wrap IntKind.i64 ((((YS.i y) : Nat) : Int) + 1)))) = (TV.v (AV.int IntKind.i64 (((YS.i x'12) : Nat) : Int)))) ∧
 (State.Le ((ls9 n picks l ins I).3 x'12) (State.untok σ'9)))))))))))))))))
 (∃ c10 : MH, (∃ M11 : Nat, (∃ m12 : RM, (([(AV.ptr (YS.M y) 0)] = [(AV.ptr (M11) 0)]) ∧
 (((At c10 σ'9) ∧
 (∃ L13 : ML, (∃ p14 : PM, ((((ML.M L13) : Nat) = (M11)) ∧
 ((Rep c10 L13 p14) ∧
 ((Abs p14 m12) ∧
 (RM.Wf m12))))))) ∧
 ((((Prod.snd (RM.next m12)) = Option.none) → (∀ c'13 : MH, (∀ σ'14 : State, (((At c'13 σ'14) ∧
 ((∃ L15 : ML, (∃ p16 : PM, ((((ML.M L15) : Nat) = (M11)) ∧
 ((Rep c'13 L15 p16) ∧
 ((Abs p16 m12) ∧
 (RM.Wf m12)))))) ∧
 (∀ i15 : Nat, ((c'13 (MRole.x i15)) = (c10 (MRole.x i15)))))) → False)))) ∧
 (∀ x13 : Nat × T, (((Prod.snd (RM.next m12)) = (Option.some (x13))) → (∀ c'14 : MH, (∀ σ'15 : State, (((At c'14 σ'15) ∧
 ((∃ L16 : ML, (∃ p17 : PM, ((((ML.M L16) : Nat) = (M11)) ∧
 ((Rep c'14 L16 p17) ∧
 ((Abs p17 (Prod.fst (RM.next m12))) ∧
 (RM.Wf (Prod.fst (RM.next m12)))))))) ∧
 (∀ i16 : Nat, ((c'14 (MRole.x i16)) = (c10 (MRole.x i16)))))) → (bcase (((((Prod.fst x13) : Nat) : Int) : Int) != (((x1) : Nat) : Int))
 False
 ((((0 : Int) ≤ (((YS.i y) : Nat) : Int)) ∧
 (((((YS.i y) : Nat) : Int) : Int) < (((List.length (tcellL l)) : Nat) : Int))) ∧
 (∃ x16 : T, (((AV.vptr (AV.cells (List.getD (tcellL l) (Int.toNat (↑(YS.i y) : Int)) AV.undef))) = (AV.vptr [(AV.int IntKind.i64 (T.k x16)), (AV.int IntKind.i64 (T.n x16)), (AV.str (T.s x16)), (AV.slice 4 (tcellL (T.l x16)) Cap.any)])) ∧
 (∃ a17 : T, (∃ b18 : T, (([(AV.agg [(AV.int IntKind.i64 (T.k (Prod.snd x13))), (AV.int IntKind.i64 (T.n (Prod.snd x13))), (AV.str (T.s (Prod.snd x13))), (AV.slice 4 (tcellL (T.l (Prod.snd x13))) Cap.any)]), (AV.agg [(AV.int IntKind.i64 (T.k x16)), (AV.int IntKind.i64 (T.n x16)), (AV.str (T.s x16)), (AV.slice 4 (tcellL (T.l x16)) Cap.any)])] = [(AV.agg [(AV.int IntKind.i64 (T.k a17)), (AV.int IntKind.i64 (T.n a17)), (AV.str (T.s a17)), (AV.slice 4 (tcellL (T.l a17)) Cap.any)]), (AV.agg [(AV.int IntKind.i64 (T.k b18)), (AV.int IntKind.i64 (T.n b18)), (AV.str (T.s b18)), (AV.slice 4 (tcellL (T.l b18)) Cap.any)])]) ∧
 (((T.small a17) ∧
 (((SizeOf.sizeOf a17) : Nat) < (S))) ∧
 (bcase (!(same a17 b18))
 False
 (∃ x'19 : YS, (((I (x'19)) ∧
 (((LS.μ (ls9 n picks l ins I) x'19) : Nat) < (LS.μ (ls9 n picks l ins I) y))) ∧
 (((TV.v (AV.int IntKind.i64 (n))) = (TV.v (AV.int IntKind.i64 (n)))) ∧
 (((TV.v (AV.slice 1 (intsZ picks) Cap.any)) = (TV.v (AV.slice 1 (intsZ picks) Cap.any))) ∧
 (((TV.v (AV.slice 4 (tcellL l) Cap.any)) = (TV.v (AV.slice 4 (tcellL l) Cap.any))) ∧
 (((TV.v (AV.ptr (YS.M y) 0)) = (TV.v (AV.ptr (YS.M x'19) 0))) ∧
 (((TV.v (AV.slice 1 (intsV ins) Cap.any)) = (TV.v (AV.slice 1 (intsV ins) Cap.any))) ∧
 (((TV.v (AV.int IntKind.i64 (IntKind.wrap IntKind.i64 ((((YS.i y) : Nat) : Int) + 1)))) = (TV.v (AV.int IntKind.i64 (((YS.i x'19) : Nat) : Int)))) ∧
 (State.Le ((ls9 n picks l ins I).3 x'19) (State.untok σ'15)))))))))))))))))))))))))))))))))))))))))))))))))))
 True)
 True)
 True)) := by kernel_rfl
def T9 (n : Int) (picks : List Int) (l : List T) (I : List Nat → YS → Prop) : LHand := fun _ Q a σ => ∃ (ins : List Nat) (y : YS), I ins y ∧ atF a ((ls9 n picks l ins (I ins)).F y) [] (y.σ.Le σ) ∧ ∀ σ', Q (.exit 0) (frm [] []) σ'
theorem vc9 (B : Nat) (w0 : World) (G : Nat → AV) (S : Nat) (n : Int) (picks : List Int) (l : List T) (I : List Nat → YS → Prop) (Q : AV → State → Prop) : (bodyX [] (EV B w0 G) (H9 (EV B w0 G) S) (T9 n picks l I) annA noHint 9 [.int .i64 n, .slice 1 (intsZ picks) .any, .slice 4 (tcellL l) .any] noObj Q) =
 (((([] : List AV) = []) ∧
 (bcase (decide (((n) : Int) < 1))
 (Q (AV.bool true) (State.untok (noObj)))
 (bcase (decide (((n) : Int) > 64))
 (Q (AV.bool true) (State.untok (noObj)))
 (∃ c0 : MH, (∃ n1 : Int, (([(AV.int IntKind.i64 1)] = [(AV.int IntKind.i64 (n1))]) ∧
 ((At c0 (State.untok (noObj))) ∧
 ((((((n1) : Int) < 0) ∨ ((64 : Int) < (n1))) → (Q (AV.bool false) (State.untok (noObj)))) ∧
 ((((0 : Int) ≤ (n1)) ∧
 (((n1) : Int) ≤ 64)) → (∀ c'2 : MH, (∀ σ'3 : State, (∀ M4 : Nat, (((At c'2 σ'3) ∧
 ((∃ L5 : ML, (∃ p6 : PM, ((((ML.M L5) : Nat) = (M4)) ∧
 ((Rep c'2 L5 p6) ∧
 ((Abs p6 (RM.new (Int.toNat n1))) ∧
 (RM.Wf (RM.new (Int.toNat n1)))))))) ∧
 (∀ i5 : Nat, ((c'2 (MRole.x i5)) = (c0 (MRole.x i5)))))) → (∃ c5 : MH, (∃ M6 : Nat, (∃ m7 : RM, (∃ i8 : Int, (∃ n9 : Int, (([(AV.ptr (M4) 0), (AV.int IntKind.i64 0), (AV.int IntKind.i64 (n))] = [(AV.ptr (M6) 0), (AV.int IntKind.i64 (i8)), (AV.int IntKind.i64 (n9))]) ∧
 (((At c5 σ'3) ∧
 (∃ L10 : ML, (∃ p11 : PM, ((((ML.M L10) : Nat) = (M6)) ∧
 ((Rep c5 L10 p11) ∧
 ((Abs p11 m7) ∧
 (RM.Wf m7))))))) ∧
 (∀ c'10 : MH, (∀ σ'11 : State, (((At c'10 σ'11) ∧
 ((∃ L12 : ML, (∃ p13 : PM, ((((ML.M L12) : Nat) = (M6)) ∧
 ((Rep c'10 L12 p13) ∧
 ((Abs p13 (Prod.fst (RM.split m7 i8 n9))) ∧
 (RM.Wf (Prod.fst (RM.split m7 i8 n9)))))))) ∧
 (∀ i12 : Nat, ((c'10 (MRole.x i12)) = (c5 (MRole.x i12)))))) → (bcase (((Prod.snd (Prod.snd (RM.split m7 i8 n9))) : Int) != 0)
 (Q (AV.bool false) σ'11)
 (bcase (((((List.length (intsV (Prod.fst (Prod.snd (RM.split m7 i8 n9))))) : Nat) : Int) : Int) != (n))
 (Q (AV.bool false) σ'11)
 (∃ ins12 : List Nat, (∃ y13 : YS, ((I (ins12) (y13)) ∧
 ((((TV.v (AV.int IntKind.i64 (n))) = (TV.v (AV.int IntKind.i64 (n)))) ∧
 (((TV.v (AV.slice 1 (intsZ picks) Cap.any)) = (TV.v (AV.slice 1 (intsZ picks) Cap.any))) ∧
 (((TV.v (AV.slice 4 (tcellL l) Cap.any)) = (TV.v (AV.slice 4 (tcellL l) Cap.any))) ∧
 (((TV.v (AV.ptr (M4) 0)) = (TV.v (AV.ptr (YS.M y13) 0))) ∧
 (((TV.v (AV.slice 1 (intsV (Prod.fst (Prod.snd (RM.split m7 i8 n9)))) Cap.any)) = (TV.v (AV.slice 1 (intsV ins12) Cap.any))) ∧
 (((TV.v (AV.int IntKind.i64 0)) = (TV.v (AV.int IntKind.i64 (((YS.i y13) : Nat) : Int)))) ∧
 (State.Le (y13.1) σ'11))))))) ∧
 (∀ σ'14 : State, (Q (AV.bool true) σ'14)))))))))))))))))))))))))))))))) := by kernel_rfl
end Go.V
/- The law StreamSplits. -/

set_option maxRecDepth 1000000
set_option linter.unusedVariables false
set_option linter.unusedSimpArgs false
set_option linter.unusedSectionVars false
namespace Go.V
open Go Go.Proofs

theorem wrap_u64 (n : Int) : IntKind.wrap .u64 n = n % 18446744073709551616 := by
  unfold IntKind.wrap
  rfl

/-- All inputs but the first are open, free and empty. -/
structure QS (m : RM) (N i : Nat) : Prop where
  len : m.I.length = N + 1
  q : ∀ j, (m.at j).q = []
  turn : m.turn = []
  of : ∀ j, 1 ≤ j → j ≤ N → (m.at j).op = true ∧ (m.at j).fr = true
  puts : m.puts ≤ i

theorem turn_nil {m : RM} (hW : m.Wf) (h : ∀ j, (m.at j).q = []) : m.turn = [] := by
  cases ht : m.turn with
  | nil => rfl
  | cons k r => exact absurd (h k) ((hW.w.tm k).1 (by rw [ht]; simp)).2.2.1

theorem qs_first {N : Nat} (h1 : 1 ≤ N) (h2 : N ≤ 64) (hW : ((RM.new 1).split 0 N).1.Wf) : (RM.new 1).split 0 N = (((RM.new 1).split 0 N).1, List.range' 1 N, 0) ∧ QS ((RM.new 1).split 0 N).1 N 0 := by
  have ho : (RM.new 1).opened 0 = some 0 := by unfold RM.opened; rw [if_pos ⟨by omega, by simp [RM.new], rfl⟩]; rfl
  have hs : (RM.new 1).split 0 N = ((((RM.new 1).shut 0).split1 0 N).fresh, List.range' 1 N, 0) := by
    unfold RM.split
    rw [ho]
    dsimp only
    rw [if_neg (by omega), if_neg (by simp [RM.new]; omega), Int.toNat_natCast]
    rfl
  have hwn := new_wf (k := 1) (by omega)
  have hk : 0 < (RM.new 1).I.length := by simp [RM.new]
  have hop : ((RM.new 1).at 0).op = true := rfl
  obtain ⟨w1, w2, _, _⟩ := shut_wf hwn hk hop
  have hsl : ((RM.new 1).shut 0).I.length = 1 := rfl
  obtain ⟨v1, _, _, _⟩ := split1_wf (n := N) w1 (by omega) rfl (by omega) w2
  obtain ⟨g1, g2, g3, g4, _, g6, _, _, _⟩ := fresh_wf v1 fun j hj => hj.elim
  rw [hs] at hW ⊢
  rw [split1_len, hsl] at g3
  have hat : ∀ j, ((((RM.new 1).shut 0).split1 0 N).at j).q = [] ∧ (1 ≤ j → j ≤ N → (((RM.new 1).shut 0).split1 0 N).at j = ⟨[], true, false, 0⟩) := fun j => by
    by_cases hj : j < 1
    · obtain rfl : j = 0 := by omega
      rw [split1_at (by omega)]
      exact ⟨rfl, fun h => by omega⟩
    · by_cases hj2 : j < 1 + N
      · rw [split1_new (by omega) (by omega)]; exact ⟨rfl, fun _ _ => rfl⟩
      · rw [at_ge (by rw [split1_len]; omega)]; exact ⟨rfl, fun _ h => by omega⟩
  have hq : ∀ j, ((((RM.new 1).shut 0).split1 0 N).fresh.at j).q = [] := fun j => by rw [(g4 j).1]; exact (hat j).1
  refine ⟨rfl, by show (((RM.new 1).shut 0).split1 0 N).fresh.I.length = N + 1; omega, hq, turn_nil hW hq, fun j hj1 hj2 => ?_, by rw [g6]; exact Nat.le_refl _⟩
  have haj := (hat j).2 hj1 hj2
  refine ⟨by rw [(g4 j).2.1, haj], ?_⟩
  have hcl := g2 j (by omega)
  cases hf : ((((RM.new 1).shut 0).split1 0 N).fresh.at j).fr with
  | true => rfl
  | false =>
    have hb : ((((RM.new 1).shut 0).split1 0 N).fresh.at j).bh = 0 := by rw [(g4 j).2.2.1, haj]
    have h0 := hcl hf
    rw [hb] at h0
    have h00 : (((RM.new 1).shut 0).split1 0 N).at 0 = ⟨[], false, true, -1⟩ := split1_at (by omega)
    refine absurd ⟨(g4 0).2.2.2 (by rw [h00]), ?_⟩ h0
    show (!((((RM.new 1).shut 0).split1 0 N).fresh.at 0).op && ((((RM.new 1).shut 0).split1 0 N).fresh.at 0).q.isEmpty) = true
    rw [(g4 0).1, (g4 0).2.1, h00]; rfl

theorem qs_put {m : RM} {N i k : Nat} {t : T} (h : QS m N i) (hk1 : 1 ≤ k) (hk2 : k ≤ N) (hi : i < 150) : m.put (k : Int) t = (if chkT t ≠ 0 then (m, 3) else (m.put1 k t, 0)) := by
  have ho : m.opened (k : Int) = some k := by unfold RM.opened; rw [if_pos ⟨by omega, by have := h.len; omega, by rw [Int.toNat_natCast]; exact (h.of k hk1 hk2).1⟩, Int.toNat_natCast]
  unfold RM.put
  rw [ho]
  dsimp only
  have := h.puts
  split
  · rfl
  · rw [if_neg (by omega)]

theorem qs_next {m : RM} {N i k : Nat} {t : T} (h : QS m N i) (hk1 : 1 ≤ k) (hk2 : k ≤ N) (hW : (m.put1 k t).Wf) (hW2 : (m.put1 k t).next.1.Wf) : (m.put1 k t).next.2 = some (k, t) ∧ QS (m.put1 k t).next.1 N (i + 1) := by
  have hlen := h.len
  obtain ⟨hop, hfr⟩ := h.of k hk1 hk2
  have hat : ∀ j, (m.put1 k t).at j = if j = k then { m.at k with q := (m.at k).q ++ [t] } else m.at j := fun j => RM.set_at (I := m.I) rfl (by omega)
  have hturn : (m.put1 k t).turn = [k] := by
    show (if (m.at k).fr && (m.at k).q.isEmpty then m.turn ++ [k] else m.turn) = _
    rw [hfr, h.q k, h.turn]; rfl
  have hqk : ((m.put1 k t).at k).q = [t] := by rw [hat, if_pos rfl]; show (m.at k).q ++ [t] = _; rw [h.q k]; rfl
  have hnx : (m.put1 k t).next = (((m.put1 k t).take1 k [] []).fresh.back k [], some (k, t)) := by
    unfold RM.next; rw [hturn]; dsimp only; rw [hqk]
  rw [hnx] at hW2 ⊢
  obtain ⟨w1, _, _, _, hkl, hkf⟩ := take1_wf hW hturn hqk
  have hat2 : ∀ j, ((m.put1 k t).take1 k [] []).at j = if j = k then { (m.put1 k t).at k with q := [] } else (m.put1 k t).at j := fun j => RM.set_at (I := (m.put1 k t).I) rfl hkl
  obtain ⟨g1, g2, g3, g4, _, g6, _⟩ := fresh_wf w1 fun j hj => by subst hj; rw [hat2, if_pos rfl]; exact hkf
  have hl1 : (m.put1 k t).I.length = m.I.length := List.length_set
  have hl2 : ((m.put1 k t).take1 k [] []).I.length = (m.put1 k t).I.length := List.length_set
  have hq : ∀ j, ((((m.put1 k t).take1 k [] []).fresh.back k []).at j).q = [] := fun j => by
    show ((((m.put1 k t).take1 k [] []).fresh).at j).q = []
    rw [(g4 j).1, hat2]
    split
    · rfl
    · rename_i e; rw [hat, if_neg e]; exact h.q j
  refine ⟨rfl, by show ((m.put1 k t).take1 k [] []).fresh.I.length = _; omega, hq, turn_nil hW2 hq, fun j hj1 hj2 => ?_, ?_⟩
  · obtain ⟨o1, o2⟩ := h.of j hj1 hj2
    have e1 : (((m.put1 k t).take1 k [] []).at j).op = true ∧ (((m.put1 k t).take1 k [] []).at j).fr = true := by
      rw [hat2]
      split
      · rw [hat, if_pos rfl]; exact ⟨hop, hfr⟩
      · rename_i e; rw [hat, if_neg e]; exact ⟨o1, o2⟩
    exact ⟨(g4 j).2.1.trans e1.1, (g4 j).2.2.2 e1.2⟩
  · show ((m.put1 k t).take1 k [] []).fresh.puts ≤ i + 1
    rw [g6]
    have := h.puts
    show m.puts + 1 ≤ i + 1
    omega

structure IS9 (N : Nat) (ins : List Nat) (y : YS) : Prop where
  at_ : At y.c y.σ
  rep : MRep y.c y.M y.m
  xt : XT y.c
  ins : ins = List.range' 1 N
  qs : QS y.m N y.i
  i : y.i ≤ 150

section
variable {B : Nat} {w0 : World}
theorem H9_ok (S : Nat) : HOk1 (EV B w0 G1) (H9 (EV B w0 G1) S) := hnd_ok (EV_mixed B w0 G1) (contracts_cons c16_ok (contracts_cons c41_ok (contracts_cons (c42_ok G1_noId) (contracts_cons (c43_ok G1_noId) (contracts_cons (c44s_ok G1_noId) (contracts_cons (c32_ok G1_noId) (contracts_cons (c33_ok G1_noId S) contracts_nil)))))))

theorem splits_ok (n : Int) (picks : List Int) (l : List T) (hb : ∀ t ∈ l, t.bulk ≤ 1099511627776) : ACalls (EV B w0 G1) 9 [.int .i64 n, .slice 1 (intsZ picks) .any, .slice 4 (tcellL l) .any] noObj (fun v _ => v = .bool true) := by
  refine bodyX_ok (cuts := []) (EV_mixed B w0 G1) (H9_ok (SizeOf.sizeOf l + 1)) (fun lp hl _ Q a σ kk => ?_) ((vc9 B w0 G1 (SizeOf.sizeOf l + 1) n picks l (fun ins y => 1 ≤ n ∧ n ≤ 64 ∧ IS9 n.toNat ins y) _).mpr ⟨rfl, bcase_of (fun _ => rfl) (fun h1 => bcase_of (fun _ => rfl) (fun h2 => ?_))⟩)
  · change lp ∈ fnParts Tryz.prog [] 9 at hl
    rw [fnParts_9] at hl
    simp only [List.mem_cons, List.not_mem_nil, or_false] at hl
    subst hl
    obtain ⟨ins, y, ⟨hn1, hn2, hI⟩, ha, hq⟩ := kk
    refine awp_loopS (ls9 n picks l ins (IS9 n.toNat ins)) (x0 := y) (fun y hI => ?_) (fun y hI e a σ hne kk => ?_) hI ha
    · have hI : IS9 n.toNat ins y := hI
      show AWp _ _ _ _ _ (frm [(0, .v (.int .i64 n)), (1, .v (.slice 1 (intsZ picks) .any)), (2, .v (.slice 4 (tcellL l) .any)), (7, .v (.ptr y.M 0)), (9, .v (.slice 1 (intsV ins) .any)), (10, .v (.int .i64 (y.i : Int)))] []) y.σ
      refine wpX_ok (H9_ok (SizeOf.sizeOf l + 1)) (EV_mixed B w0 G1) (L := fun _ _ _ _ => False) _ _ _ _ (fun p hp hc Q a σ k => k.elim) (by kernel_rfl) ((vc9l B w0 G1 (SizeOf.sizeOf l + 1) n picks l ins _ y).mpr ?_)
      refine bcase_of (fun hl => bcase_of (fun hp => bcase_of (fun h150 => ?_) (fun _ => trivial)) (fun _ => trivial)) (fun _ => trivial)
      have hl := of_decide_eq_true hl
      have hp := of_decide_eq_true hp
      have h150 := of_decide_eq_true h150
      have hi : y.i < l.length := by rw [show (tcellL l).length = l.length by rw [tcellL_eq, List.length_map]] at hl; omega
      have hpi : y.i < picks.length := by unfold intsZ at hp; rw [List.length_map] at hp; omega
      have hpg : AV.vptr (AV.cells (List.getD (intsZ picks) (Int.toNat (y.i : Int)) .undef)) = .vptr [.int .i64 picks[y.i]] := by
        rw [Int.toNat_natCast]; unfold intsZ; rw [List.getD, List.getElem?_map, List.getElem?_eq_getElem hpi]; rfl
      have hwn : IntKind.wrap .u64 n = n := by rw [wrap_u64]; omega
      have hx0 : 0 ≤ IntKind.wrap .u64 picks[y.i] := by rw [wrap_u64]; omega
      have ht1 : 0 ≤ Int.tmod (IntKind.wrap .u64 picks[y.i]) n := Int.tmod_nonneg _ hx0
      have ht2 : Int.tmod (IntKind.wrap .u64 picks[y.i]) n < n := Int.tmod_lt_of_pos _ (by omega)
      have hinl : (intsV ins).length = n.toNat := by rw [intsV_len, hI.ins, List.length_range']
      generalize hd : Int.tmod (IntKind.wrap .u64 picks[y.i]) n = d at ht1 ht2
      have hdi : d.toNat < ins.length := by rw [intsV_len] at hinl; omega
      have hk : ins[d.toNat] = 1 + d.toNat := by
        have := hI.ins
        subst this
        rw [List.getElem_range']; omega
      have htg : ∀ (h : y.i < l.length), AV.vptr (AV.cells (List.getD (tcellL l) (Int.toNat (y.i : Int)) .undef)) = .vptr (tc l[y.i]) := fun h => by rw [Int.toNat_natCast]; exact tcellL_get h
      have w1 : IntKind.wrap .i64 ((y.i : Int) + 1) = ((y.i + 1 : Nat) : Int) := by rw [wr_small (by omega) (by omega)]; omega
      have hμ : l.length - (y.i + 1) < l.length - y.i := by omega
      have hrng : (0 : Int) ≤ (y.i : Int) ∧ (y.i : Int) < ((tcellL l).length : Int) := ⟨by omega, hl⟩
      have hqp := qs_put (t := l[y.i]) hI.qs (k := ins[d.toNat]) (by omega) (by omega) (by omega)
      refine ⟨⟨by omega, hp⟩, picks[y.i], hpg, by rw [hwn]; omega, ⟨by rw [hwn, hd]; exact ht1, by rw [hwn, hd, hinl]; omega⟩, ins[d.toNat], by rw [hwn, hd, intsV_get hdi]; rfl, hrng, l[y.i], htg hi, y.c, y.M, y.m, ((ins[d.toNat] : Nat) : Int), l[y.i], rfl, ⟨hI.at_, hI.rep, hI.xt⟩, fun c' σ' ⟨g1, g2, g3⟩ => ?_⟩
      rw [hqp] at g2 ⊢
      have hx' := hI.xt.frame g3
      by_cases hc : chkT l[y.i] = 0
      · rw [if_neg (by simpa using hc)] at g2 ⊢
        refine bcase_of (fun h => by simp at h) (fun _ => ⟨c', y.M, _, rfl, ⟨g1, g2⟩, fun hn c2 σ2 ⟨k1, k2, k3⟩ => ?_, fun x hx c2 σ2 ⟨k1, k2, k3⟩ => ?_⟩)
        · obtain ⟨L0, p0, _, _, _, hW⟩ := g2
          have hW2 : (y.m.put1 ins[d.toNat] l[y.i]).next.1.Wf := by
            rcases next_cases hW with ⟨_, e⟩ | ⟨k, r, t, q, e1, e2, e⟩
            · rw [e]; exact hW
            · rw [e] at hn; cases hn
          rw [(qs_next hI.qs (by omega) (by omega) hW hW2).1] at hn
          cases hn
        · obtain ⟨L0, p0, _, _, _, hW⟩ := g2
          obtain ⟨L2, p2, e1, e2, e3, hW2⟩ := k2
          obtain ⟨q1, q2⟩ := qs_next hI.qs (by omega) (by omega) hW hW2
          rw [q1] at hx
          cases hx
          refine bcase_of (fun h => by simp at h) (fun _ => ⟨hrng, l[y.i], htg hi, l[y.i], l[y.i], rfl, ⟨chk_small hc, ?_⟩, bcase_of (fun h => by rw [same_refl_aux.1] at h; cases h) (fun _ => ?_)⟩)
          · have := List.sizeOf_lt_of_mem (List.getElem_mem hi)
            omega
          · exact ⟨⟨_, cleanH c2, y.M, _, y.i + 1⟩, ⟨⟨k1.clean, MRep.clean ⟨L2, p2, e1, e2, e3, hW2⟩, (hx'.frame k3).frame (hx'.frame k3).clean, hI.ins, q2, by show y.i + 1 ≤ 150; omega⟩, hμ⟩, rfl, rfl, rfl, rfl, rfl, by rw [w1], .refl _⟩
      · rw [if_pos hc] at g2 ⊢
        refine bcase_of (fun _ => ⟨hrng, l[y.i], htg hi, l[y.i], rfl, hb _ (List.getElem_mem hi), bcase_of (fun h => hc (by simpa using h)) (fun _ => ?_)⟩) (fun h => by simp at h)
        exact ⟨⟨_, cleanH c', y.M, y.m, y.i + 1⟩, ⟨⟨g1.clean, (show MRep c' y.M y.m from g2).clean, hx'.frame hx'.clean, hI.ins, ⟨hI.qs.len, hI.qs.q, hI.qs.turn, hI.qs.of, by have := hI.qs.puts; show y.m.puts ≤ y.i + 1; omega⟩, by show y.i + 1 ≤ 150; omega⟩, hμ⟩, rfl, rfl, rfl, rfl, rfl, by rw [w1], .refl _⟩
    · cases e with
      | exit i =>
        match i, kk with
        | 0, kk => exact ⟨_, σ, (atF_ok (F := []) (FL := []) (R := True) ⟨⟩).1, .refl _, hq σ⟩
      | normal => exact absurd rfl hne
      | _ => exact kk.elim
  · have h1 := of_decide_eq_false h1
    have h2 := of_decide_eq_false h2
    have hnn : ((n.toNat : Nat) : Int) = n := by omega
    refine ⟨noneH, 1, rfl, noneH_at _, fun h => by omega, fun _ c' σ' M ⟨g1, g2, g3⟩ => ⟨c', M, RM.new 1, 0, n, rfl, ⟨g1, g2⟩, fun c2 σ2 ⟨k1, k2, k3⟩ => ?_⟩⟩
    obtain ⟨L2, p2, e1, e2, e3, hW2⟩ := k2
    have k2 : MRep c2 M ((RM.new 1).split 0 n).1 := ⟨L2, p2, e1, e2, e3, hW2⟩
    rw [← hnn] at hW2 k2 ⊢
    obtain ⟨q1, q2⟩ := qs_first (N := n.toNat) (by omega) (by omega) hW2
    have es : ((RM.new 1).split 0 (n.toNat : Int)).2 = (List.range' 1 n.toNat, 0) := by rw [q1]
    rw [es]
    refine bcase_of (fun h => by simp at h) (fun _ => bcase_of (fun h => ?_) (fun _ => ?_))
    · rw [intsV_len, List.length_range'] at h
      simp at h
    · exact ⟨_, ⟨σ2, c2, M, _, 0⟩, ⟨by omega, by omega, k1, k2, (noneH_xt.frame g3).frame k3, rfl, by rw [Int.toNat_natCast]; exact q2, Nat.zero_le _⟩, ⟨rfl, rfl, rfl, rfl, rfl, rfl, .refl _⟩, fun σ3 => rfl⟩
end
end Go.V
