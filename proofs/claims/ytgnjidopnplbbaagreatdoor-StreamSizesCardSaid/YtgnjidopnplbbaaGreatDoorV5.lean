/- The V-model, part 5: arithmetic, comparisons, conversions. -/
import Derived.Test.YtgnjidopnplbbaaGreatDoorV4
set_option linter.unusedSimpArgs false
set_option linter.unusedVariables false
namespace Go.V
open Go.RowKit

theorem toList_data (a b : ByteArray) : (a.toList == b.toList) = bseq a b := by unfold bseq; rw [ByteArray.toList_eq, ByteArray.toList_eq]
theorem bytesLess_data (a b : ByteArray) : Op.bytesLess a.toList b.toList = bslt a b := by unfold bslt; rw [ByteArray.toList_eq, ByteArray.toList_eq]

section
variable {P : Program} {B : Nat} {w0 : World} {g : Ghost} {σ : State} {w : World}

theorem int_ok {op : BinOp} {t : Nat} {k k' : IntKind} {a b : Int} {r : AV} {cst : Bool} (h : abin P op t cst (.int k a) (.int k' b) = some r) :
    ∃ z, (binOp op t (.int k a) (.int k' b)).run P w = .ok z w ∧ RV g r z := by
  simp only [abin] at h
  split at h
  · rename_i hs
    unfold ashift at h
    split at h
    · cases h
    · rename_i hb
      rcases hs with rfl | rfl
      · cases h
        exact ⟨_, (by simp [binOp, Op.shift, hb]), .int _ _⟩
      · cases h
        exact ⟨_, (by simp [binOp, Op.shift, hb]), .int _ _⟩
  · rename_i hs
    split at h
    · rename_i hk
      subst hk
      unfold aint at h
      cases op <;> simp only [reduceCtorEq] at h hs <;> first
        | (simp at hs; done)
        | (cases h; refine ⟨_, ?_, .int _ _⟩; rfl)
        | (cases h; refine ⟨_, ?_, .bool _⟩; rfl)
        | (cases h; refine ⟨_, ?_, .int _ _⟩; simp [binOp, Op.intArith, Op.intCmp, Op.intBits]; done)
        | (cases h; refine ⟨_, ?_, .bool _⟩; simp [binOp, Op.intArith, Op.intCmp, Op.intBits]; done)
        | (split at h
           · cases h
           · rename_i hb
             cases h
             refine ⟨_, ?_, .int _ _⟩
             simp [binOp, Op.intDiv, hb])
    · cases h

theorem str_ok {op : BinOp} {t : Nat} {a b : ByteArray} {r : AV} (h : astrop op a b = some r) :
    ∃ z, (binOp op t (.string a) (.string b)).run P w = .ok z w ∧ RV g r z := by
  unfold astrop at h
  cases op <;> simp only [reduceCtorEq] at h <;> first
    | (cases h; refine ⟨_, ?_, .bool _⟩; simp [binOp, Op.stringOp, toList_data, bytesLess_data]; done)
    | (split at h
       · rename_i hb
         cases h
         have hlt : ¬ (IntKind.i64.max < (a.size : Int) + (b.size : Int)) := by
           have : IntKind.i64.max = 9223372036854775807 := by decide
           rw [this]; omega
         refine ⟨_, ?_, .str _⟩
         simp [binOp, Op.stringOp, hlt]
         omega
       · cases h)

theorem eq1_ok {d t : Nat} {x y : AV} {u v : Value} {r : Bool} (hx : RV g x u) (hy : RV g y v) (h : aeq1 P t x y = some r) :
    (Op.equalIn (d + 1) t u v).run P w = .ok r w := by
  unfold aeq1 at h
  split at h
  · rename_i hu
    split at h
    · rename_i hk
      subst hk
      cases h
      cases hx; cases hy
      exact run_equalIn_int w d t _ _ _ _ hu
    · cases h
  · rename_i hu
    cases h
    cases hx; cases hy
    rw [← toList_data]
    exact run_equalIn_string w d t _ _ hu
  · rename_i hu
    cases h
    cases hx; cases hy
    exact run_equalIn_bool' w d t _ _ hu
  · cases h

theorem eqF_ok {d : Nat} {xs ys : List AV} {us vs : Array Value} (hx : RVL g xs us.toList) (hy : RVL g ys vs.toList) : ∀ (fs : List Field) (r : Bool), aeqF P xs ys fs = some r →
    (Op.eqFields (d + 1) us vs fs).run P w = .ok r w := by
  intro fs
  induction fs with
  | nil => intro r h; simp only [aeqF] at h; cases h; simp [Op.eqFields]
  | cons f fs ih =>
    intro r h
    simp only [aeqF] at h
    split at h
    · rename_i hn
      split at h
      · rename_i a b ha hb
        split at h
        · rename_i p q hp hq
          cases h
          obtain ⟨u, hu, hur⟩ := apart_part ha hx w
          obtain ⟨v, hv, hvr⟩ := apart_part hb hy w
          have he := eq1_ok (w := w) (d := d) hur hvr hp
          have hi := ih q hq
          rw [Op.eqFields, if_pos hn]
          simp only [Sem.run_bind, hu, hv, he, Result.andThen_ok]
          cases p
          · simp
          · simpa using hi
        · cases h
      · cases h
    · rename_i hn
      rw [Op.eqFields, if_neg hn]
      exact ih r h

theorem eq_ok {d t : Nat} {x y : AV} {u v : Value} {r : Bool} (hx : RV g x u) (hy : RV g y v) (h : aeq P t x y = some r) :
    (Op.equalIn (d + 2) t u v).run P w = .ok r w := by
  unfold aeq at h
  split at h
  · split at h
    · rename_i hc
      obtain ⟨hok, hk, ha, _⟩ := hc
      obtain ⟨us, rfl, hus⟩ := hx.agg_inv
      obtain ⟨vs, rfl, hvs⟩ := hy.agg_inv
      have hs : P.stoodInHeld t = false := by simp [eqOk] at hok; exact hok.2
      have hu : P.underlying t = some (.struct (P.fieldsOf t)) := by
        unfold kindT at hk
        split at hk
        · rename_i fs hu; simp [Program.fieldsOf, hu]
        · rename_i n e hu; simp [arrT, hu] at ha
        · cases hk
        · cases hk
      rw [run_equalIn_struct w (d + 1) t us vs hu hs]
      exact eqF_ok hus hvs _ _ h
    · cases h
  · exact eq1_ok hx hy h

theorem nilIn_ok {d t : Nat} {x y : AV} {u v : Value} {r : Bool} (hx : RV g x u) (hy : RV g y v) (h : anil P t x y = some r) :
    (Op.equalIn (d + 1) t u v).run P w = .ok r w := by
  unfold anil at h
  split at h <;> first
    | (rename_i hu; cases h; cases hx; cases hy; simp only [Op.equalIn, Sem.run_bind, run_underlying hu, Result.andThen_ok, Sem.run_pure]; done)
    | (rename_i hu; cases h; cases hx; cases hy; simp only [Op.equalIn, Sem.run_bind, run_underlying hu, Result.andThen_ok, Sem.run_pure]; rfl)
    | (rename_i hu; split at h <;> first | (cases h; done) | skip; rename_i hn; cases h; cases hx <;> cases hy <;> first | (simp [nnil] at hn; done) | (simp only [Op.equalIn, Sem.run_bind, run_underlying hu, Result.andThen_ok, Sem.run_pure]; done) | (simp only [Op.equalIn, Sem.run_bind, run_underlying hu, Result.andThen_ok, Sem.run_pure]; rfl))
    | (cases h; done)

theorem nilG_ok {t : Nat} {x y : AV} {u v : Value} {r : Bool} (hx : RV g x u) (hy : RV g y v) (h : anil P t x y = some r) (op : BinOp) (ox oy : Operand) :
    (eqGuard op t ox oy u v).run P w = .ok () w := by
  unfold anil at h
  split at h <;> first
    | (rename_i hu; cases h; cases hx; cases hy; cases op <;> rfl)
    | (rename_i hu; split at h <;> first | (cases h; done) | skip; rename_i hn; cases h; cases hx <;> cases hy <;> first | (simp [nnil] at hn; done) | (cases op <;> rfl))
    | (cases h; done)

theorem nilB_ok {t : Nat} {x y : AV} {u v : Value} {r : Bool} (hx : RV g x u) (hy : RV g y v) (h : anil P t x y = some r) :
    binOp .eql t u v = (do pure (.bool (← Op.equal t u v))) ∧ binOp .neq t u v = (do pure (.bool (!(← Op.equal t u v)))) := by
  unfold anil at h
  split at h <;> first
    | (rename_i hu; cases h; cases hx; cases hy; exact ⟨rfl, rfl⟩)
    | (rename_i hu; split at h <;> first | (cases h; done) | skip; rename_i hn; cases h; cases hx <;> cases hy <;> first | (simp [nnil] at hn; done) | exact ⟨rfl, rfl⟩)
    | (cases h; done)

theorem nil_ok {t : Nat} {x y : AV} {u v : Value} {r : Bool} (hx : RV g x u) (hy : RV g y v) (h : anil P t x y = some r) :
    (binOp .eql t u v).run P w = .ok (.bool r) w ∧ (binOp .neq t u v).run P w = .ok (.bool (!r)) w := by
  obtain ⟨h1, h2⟩ := nilB_ok (P := P) hx hy h
  have he : (Op.equal t u v).run P w = .ok r w := nilIn_ok (d := 9999) hx hy h
  rw [h1, h2]
  exact ⟨by simp only [Sem.run_bind, he, Result.andThen_ok, Sem.run_pure], by simp only [Sem.run_bind, he, Result.andThen_ok, Sem.run_pure]⟩

theorem eqB_ok {t : Nat} {x y : AV} {u v : Value} {r : Bool} (hx : RV g x u) (hy : RV g y v) (h : aeq P t x y = some r) (hni : ∀ k a k' b, ¬ (x = .int k a ∧ y = .int k' b)) (hns : ∀ a b, ¬ (x = .str a ∧ y = .str b)) :
    (∀ op ox oy, (eqGuard op t ox oy u v).run P w = .ok () w) ∧ (binOp .eql t u v).run P w = .ok (.bool r) w ∧ (binOp .neq t u v).run P w = .ok (.bool (!r)) w := by
  have he : (Op.equalIn 10000 t u v).run P w = .ok r w := eq_ok (d := 9998) hx hy h
  unfold aeq at h
  split at h
  · split at h
    · rename_i hc
      obtain ⟨us, rfl, hus⟩ := hx.agg_inv
      obtain ⟨vs, rfl, hvs⟩ := hy.agg_inv
      have hm : P.eqGuardType P.depth t = false := by have := hc.1; simp [eqOk] at this; exact this.1
      refine ⟨fun op ox oy => run_eqGuard_agg w op t ox oy us vs hm, ?_, ?_⟩
      · rw [run_eql_struct, he]; rfl
      · rw [run_neq_struct, he]; rfl
    · cases h
  · unfold aeq1 at h
    split at h
    · exact absurd ⟨rfl, rfl⟩ (hni _ _ _ _)
    · exact absurd ⟨rfl, rfl⟩ (hns _ _)
    · rename_i hu
      cases h
      cases hx; cases hy
      have he' : (Op.equal t (.bool _) (.bool _)).run P w = .ok _ w := he
      refine ⟨fun op ox oy => by cases op <;> rfl, ?_, ?_⟩
      · show (do pure (Value.bool (← Op.equal t _ _)) : Sem Value).run P w = _
        simp only [Sem.run_bind, he', Result.andThen_ok, Sem.run_pure]
      · show (do pure (Value.bool (!(← Op.equal t _ _))) : Sem Value).run P w = _
        simp only [Sem.run_bind, he', Result.andThen_ok, Sem.run_pure]
    · cases h

theorem nilI_ok {t : Nat} {ms : Array (String × TypeId)} (d : Nat) (hu : P.underlying t = some (.interface ms)) : (Op.equalIn (d + 1) t .nilIface .nilIface).run P w = .ok true w := by
  simp only [Op.equalIn, Sem.run_bind, run_underlying hu, Result.andThen_ok, Sem.run_pure]
theorem guard_int (op : BinOp) (t : Nat) (ox oy : Operand) (k k' : IntKind) (a b : Int) : (eqGuard op t ox oy (.int k a) (.int k' b)).run P w = .ok () w := by cases op <;> rfl
theorem guard_str (op : BinOp) (t : Nat) (ox oy : Operand) (a b : ByteArray) : (eqGuard op t ox oy (.string a) (.string b)).run P w = .ok () w := by cases op <;> rfl

theorem bin_ok {op : BinOp} {t : Nat} {ox oy : Operand} {x y r : AV} {u v : Value} (hx : RV g x u) (hy : RV g y v) (h : abin P op t (isConst ox || isConst oy) x y = some r) :
    ∃ z, (do eqGuard op t ox oy u v; binOp op t u v : Sem Value).run P w = .ok z w ∧ RV g r z := by
  unfold abin at h
  split at h
  · cases hx; cases hy
    obtain ⟨z, h1, h2⟩ := int_ok (P := P) (w := w) (g := g) (op := op) (t := t) (cst := false) (by simpa only [abin] using h)
    exact ⟨z, by simp only [Sem.run_bind, guard_int, Result.andThen_ok]; exact h1, h2⟩
  · cases hx; cases hy
    obtain ⟨z, h1, h2⟩ := str_ok (P := P) (w := w) (g := g) (t := t) h
    exact ⟨z, by simp only [Sem.run_bind, guard_str, Result.andThen_ok]; exact h1, h2⟩
  · cases hx; cases hy
    split at h
    · rename_i hc
      have hg : (eqGuard op t ox oy .nilIface .nilIface).run P w = .ok () w := by
        have h1 : ((ox matches .const _) || (oy matches .const _)) = true := by
          revert hc; unfold isConst; cases ox <;> cases oy <;> simp
        cases op <;> first | rfl | (simp only [eqGuard]; cases ox <;> cases oy <;> first | rfl | (simp at h1; done))
      split at h
      · rename_i hu
        cases h
        refine ⟨_, ?_, .bool _⟩
        have he' : (Op.equal t .nilIface .nilIface).run P w = .ok true w := nilI_ok 9999 hu
        simp only [Sem.run_bind, hg, Result.andThen_ok]
        show (do pure (Value.bool (← Op.equal t _ _)) : Sem Value).run P w = _
        simp only [Sem.run_bind, he', Result.andThen_ok, Sem.run_pure]
      · rename_i hu
        cases h
        refine ⟨_, ?_, .bool _⟩
        have he' : (Op.equal t .nilIface .nilIface).run P w = .ok true w := nilI_ok 9999 hu
        simp only [Sem.run_bind, hg, Result.andThen_ok]
        show (do pure (Value.bool (!(← Op.equal t _ _))) : Sem Value).run P w = _
        simp only [Sem.run_bind, he', Result.andThen_ok, Sem.run_pure]; rfl
      · cases h
    · cases h
  · rename_i hni hns hnn
    split at h
    · split at h
      · rename_i q hq
        cases h
        exact ⟨_, by simp only [Sem.run_bind, nilG_ok hx hy hq, Result.andThen_ok]; exact (nil_ok hx hy hq).1, .bool _⟩
      · cases he : aeq P t x y with
        | none => rw [he] at h; cases h
        | some q =>
          rw [he] at h; cases h
          obtain ⟨h1, h2, h3⟩ := eqB_ok (w := w) hx hy he (fun k a k' b e => hni k a k' b e.1 e.2) (fun a b e => hns a b e.1 e.2)
          exact ⟨_, by simp only [Sem.run_bind, h1, Result.andThen_ok]; exact h2, .bool _⟩
    · split at h
      · rename_i q hq
        cases h
        exact ⟨_, by simp only [Sem.run_bind, nilG_ok hx hy hq, Result.andThen_ok]; exact (nil_ok hx hy hq).2, .bool _⟩
      · cases he : aeq P t x y with
        | none => rw [he] at h; cases h
        | some q =>
          rw [he] at h; cases h
          obtain ⟨h1, h2, h3⟩ := eqB_ok (w := w) hx hy he (fun k a k' b e => hni k a k' b e.1 e.2) (fun a b e => hns a b e.1 e.2)
          exact ⟨_, by simp only [Sem.run_bind, h1, Result.andThen_ok]; exact h3, .bool _⟩
    · cases h

theorem un_ok {op : UnOp} {x r : AV} {u : Value} (hx : RV g x u) (h : aun op x = some r) : ∃ z, (Op.unary op u).run P w = .ok z w ∧ RV g r z := by
  unfold aun at h
  split at h
  · cases h; cases hx; exact ⟨_, rfl, .bool _⟩
  · cases h; cases hx; exact ⟨_, rfl, .int _ _⟩
  · cases h

theorem conv_ok {s d : Nat} {x r : AV} {u : Value} (hx : RV g x u) (h : aconv P s d x = some r) : ∃ z, (convert s d u).run P w = .ok z w ∧ RV g r z := by
  unfold aconv at h
  split at h
  · rename_i hs hd
    cases h; cases hx
    refine ⟨_, ?_, .int _ _⟩
    simp only [convert, Sem.run_bind, run_underlying hs, run_underlying hd, Result.andThen_ok]
    rfl
  · rename_i hs hd
    cases h; cases hx
    refine ⟨_, ?_, .str _⟩
    simp only [convert, Sem.run_bind, run_underlying hs, run_underlying hd, Result.andThen_ok]
    rfl
  · cases h

end
end Go.V
