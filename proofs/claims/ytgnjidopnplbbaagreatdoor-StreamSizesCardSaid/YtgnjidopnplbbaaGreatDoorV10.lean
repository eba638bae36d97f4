/- The V-model, part 10: every operation, as the machine runs it. -/
import Derived.Test.YtgnjidopnplbbaaGreatDoorV9
set_option linter.unusedSimpArgs false
set_option linter.unusedVariables false
namespace Go.V
open Go.RowKit

section
variable {P : Program} {B : Nat} {w0 : World} {g : Ghost} {σ : State} {w : World}

def OpGood (P : Program) (B : Nat) (w0 : World) (g : Ghost) (o : Oper) (act : Act) (w : World) : Res → Prop
  | .ok v σ' => ∃ g' w' u nx, g.Le g' ∧ Sim B w0 g' σ' w' ∧ RV g' v u ∧ (execOp act.eval o).run P w = .ok nx w' ∧ (nx = .value u ∨ (nx = .skip ∧ u = undef))
  | .call (.fn f) args => ∃ vs : Array Value, (execOp act.eval o).run P w = .ok (.enter f vs) w ∧ RVL g args vs.toList
  | .call (.yield id) args => ∃ (vs : Array Value) (i : Info), g.info id = some i ∧ (execOp act.eval o).run P w = (Instr.yield i.blk vs).run P w ∧ RVL g args vs.toList
  | .fail => True

theorem OpGood.pure {o : Oper} {act : Act} {v : AV} {u : Value} (hS : Sim B w0 g σ w) (hv : RV g v u) (h : (execOp act.eval o).run P w = .ok (.value u) w) : OpGood P B w0 g o act w (.ok v σ) :=
  ⟨g, w, u, _, .refl g, hS, hv, h, .inl rfl⟩

theorem OpGood.of {o : Oper} {act : Act} {r : Option AV} (hS : Sim B w0 g σ w) (h : ∀ v, r = some v → ∃ u, RV g v u ∧ (execOp act.eval o).run P w = .ok (.value u) w) : OpGood P B w0 g o act w (.of σ r) := by
  cases r with
  | none => trivial
  | some v => obtain ⟨u, h1, h2⟩ := h v rfl; exact .pure hS h1 h2

theorem RVL.map_ops {n : Nat} {G : Nat → AV} {a : Nat → AV} {act : Act} (hG : RelG g G) (hT : RelT n g a act) (xs : List Operand) : RVL g (xs.map (aval G a)) (xs.map act.eval) :=
  ⟨by simp, fun i h1 h2 => by simp only [List.getElem_map]; exact aval_ok hG hT _⟩

theorem RVO.map {n : Nat} {G : Nat → AV} {a : Nat → AV} {act : Act} (hG : RelG g G) (hT : RelT n g a act) (x : Option Operand) : RVO g (x.map (aval G a)) (x.map act.eval) := by
  cases x with
  | none => exact .none
  | some x => exact .some _ _ (aval_ok hG hT x)

theorem aval_const {G : Nat → AV} {a : Nat → AV} {act : Act} {n : Nat} (hG : RelG g G) (hT : RelT n g a act) (x : Operand) : RV g (aval G a x) (act.eval x) := aval_ok hG hT x

theorem call_ok (hS : Sim B w0 g σ w) {n : Nat} {G : Nat → AV} {a : Nat → AV} {act : Act} (hG : RelG g G) (hT : RelT n g a act) {ann : Ann} {o : Oper} {c : Call} (ho : o.op = .call c) :
    OpGood P B w0 g o act w (acall P σ ann c (aval G a)) := by
  have hex : (execOp act.eval o) = (do let d ← resolve act.eval c o.type; invoke d.target d.args) := by unfold execOp; rw [ho]
  unfold acall
  split
  · rename_i f hc
    split
    · rename_i fid first captured hf
      split
      · rename_i hb
        have h1 := aval_ok hG hT f
        rw [hf] at h1
        obtain ⟨fs, cs, he, hfs, hcs⟩ := h1.func_inv
        refine ⟨fs ++ c.args.map act.eval ++ cs, ?_, ?_⟩
        · rw [hex]
          simp only [resolve, hc, he, Deferred.ofValue, Sem.run_bind, Sem.run_pure, Result.andThen_ok, invoke]
          exact hasBody_run hb _ w
        · simp only [Array.toList_append, Array.toList_map]
          exact (hfs.append (RVL.map_ops hG hT _)).append hcs
      · trivial
    · rename_i id hf
      have h1 := aval_ok hG hT f
      rw [hf] at h1
      generalize he : act.eval f = q at h1
      cases h1
      rename_i i hi
      refine ⟨c.args.map act.eval, i, hi, ?_, ?_⟩
      · rw [hex]
        simp only [resolve, hc, he, Deferred.ofValue, Sem.run_bind, Sem.run_pure, Result.andThen_ok, invoke]
        simp
      · simp only [Array.toList_map]
        exact RVL.map_ops hG hT _
    · trivial
  · rename_i hc
    split
    · rename_i t x ht hx
      split
      · rename_i k hk
        obtain ⟨o1, ho1, hox⟩ : ∃ o1, c.args.toList = [o1] ∧ aval G a o1 = x := by
          cases hl : c.args.toList with
          | nil => rw [hl] at hx; simp at hx
          | cons o1 r => cases r with
            | nil => rw [hl] at hx; simp at hx; exact ⟨o1, rfl, hx⟩
            | cons o2 r => rw [hl] at hx; simp at hx
        subst hox
        have hl := len_ok hS (aval_ok hG hT o1) hk
        refine .pure hS (.int .i64 k) ?_
        have e1 : c.args = #[o1] := by apply Array.ext'; simpa using ho1
        have e2 : c.argTypes = #[t] := by apply Array.ext'; simpa using ht
        rw [hex]
        simp only [resolve, hc, e1, e2, Sem.run_bind, Sem.run_pure, Result.andThen_ok, invoke, builtin, List.map_toArray, List.map_cons, List.map_nil]
        have h0 : (Builtin.len_ #[t] o.type #[act.eval o1]) = Builtin.len_ #[t] 0 #[act.eval o1] := rfl
        rw [h0, hl]
        rfl
      · trivial
    · trivial
  · rename_i hc
    split
    · rename_i t t' x y ht hx
      obtain ⟨o1, o2, ho1, hox, hoy⟩ : ∃ o1 o2, c.args.toList = [o1, o2] ∧ aval G a o1 = x ∧ aval G a o2 = y := by
        cases hl : c.args.toList with
        | nil => rw [hl] at hx; simp at hx
        | cons o1 r => cases r with
          | nil => rw [hl] at hx; simp at hx
          | cons o2 r => cases r with
            | nil => rw [hl] at hx; simp at hx; exact ⟨o1, o2, rfl, hx.1, hx.2⟩
            | cons o3 r => rw [hl] at hx; simp at hx
      subst hox; subst hoy
      have e1 : c.args = #[o1, o2] := by apply Array.ext'; simpa using ho1
      have e2 : c.argTypes = #[t, t'] := by apply Array.ext'; simpa using ht
      have e3 : ∀ r σ', aappendZ P σ ann t t' (aval G a o1) (aval G a o2) = .ok r σ' → ∃ g' w' z, g.Le g' ∧ Sim B w0 g' σ' w' ∧ RV g' r z ∧ (Builtin.append_ #[t, t'] o.type #[act.eval o1, act.eval o2]).run P w = .ok z w' := by
        intro r σ' hr
        have hx := aval_ok hG hT o1
        have hy := aval_ok hG hT o2
        unfold aappendZ at hr
        split at hr
        · rename_i k l hl
          rw [hl] at hy
          generalize act.eval o2 = y at hy
          cases hy
          exact zeros_ok (ty := o.type) hS hx hr
        · exact append_ok (ty := o.type) hS hx hy hr
      cases hr : aappendZ P σ ann t t' (aval G a o1) (aval G a o2) with
      | fail => trivial
      | call f args =>
        unfold aappendZ at hr
        split at hr
        · unfold azeros at hr
          repeat' (split at hr <;> try (cases hr; done))
        unfold aappend at hr
        split at hr <;> try (cases hr; done)
        split at hr <;> try (cases hr; done)
        split at hr <;> try (cases hr; done)
        split at hr
        · cases hr
        · split at hr
          · split at hr <;> cases hr
          · split at hr
            · split at hr
              · split at hr
                · split at hr <;> cases hr
                · cases hr
              · split at hr
                · split at hr <;> cases hr
                · cases hr
              · split at hr
                · split at hr
                  · split at hr <;> cases hr
                  · cases hr
                · cases hr
              · split at hr
                · split at hr
                  · split at hr <;> cases hr
                  · cases hr
                · cases hr
              · cases hr
            · cases hr
      | ok r σ' =>
        obtain ⟨g', w', z, h1, h2, h3, h4⟩ := e3 _ _ hr
        refine ⟨g', w', z, .value z, h1, h2, h3, ?_, .inl rfl⟩
        rw [hex]
        simp only [resolve, hc, e1, e2, Sem.run_bind, Sem.run_pure, Result.andThen_ok, invoke, builtin, List.map_toArray, List.map_cons, List.map_nil]
        rw [h4]
        rfl
    · trivial
  · rename_i hc
    split
    · rename_i x y hx
      split
      · rename_i v hv
        obtain ⟨o1, o2, ho1, hox, hoy⟩ : ∃ o1 o2, c.args.toList = [o1, o2] ∧ aval G a o1 = x ∧ aval G a o2 = y := by
          cases hl : c.args.toList with
          | nil => rw [hl] at hx; simp at hx
          | cons o1 r => cases r with
            | nil => rw [hl] at hx; simp at hx
            | cons o2 r => cases r with
              | nil => rw [hl] at hx; simp at hx; exact ⟨o1, o2, rfl, hx.1, hx.2⟩
              | cons o3 r => rw [hl] at hx; simp at hx
        subst hox; subst hoy
        have e1 : c.args = #[o1, o2] := by apply Array.ext'; simpa using ho1
        obtain ⟨h1, h2⟩ := min2_ok (P := P) (w := w) (aval_ok hG hT o1) (aval_ok hG hT o2) hv
        refine .pure hS h2 ?_
        rw [hex]
        simp only [resolve, hc, e1, Sem.run_bind, Sem.run_pure, Result.andThen_ok, invoke, builtin, List.map_toArray, List.map_cons, List.map_nil, Builtin.max_, List.foldlM_cons, List.foldlM_nil]
        simp only [if_true] at h1
        rw [h1]
        rfl
      · trivial
    · trivial
  · rename_i hc
    split
    · rename_i x y hx
      split
      · rename_i v hv
        obtain ⟨o1, o2, ho1, hox, hoy⟩ : ∃ o1 o2, c.args.toList = [o1, o2] ∧ aval G a o1 = x ∧ aval G a o2 = y := by
          cases hl : c.args.toList with
          | nil => rw [hl] at hx; simp at hx
          | cons o1 r => cases r with
            | nil => rw [hl] at hx; simp at hx
            | cons o2 r => cases r with
              | nil => rw [hl] at hx; simp at hx; exact ⟨o1, o2, rfl, hx.1, hx.2⟩
              | cons o3 r => rw [hl] at hx; simp at hx
        subst hox; subst hoy
        have e1 : c.args = #[o1, o2] := by apply Array.ext'; simpa using ho1
        obtain ⟨h1, h2⟩ := min2_ok (P := P) (w := w) (aval_ok hG hT o1) (aval_ok hG hT o2) hv
        refine .pure hS h2 ?_
        rw [hex]
        simp only [resolve, hc, e1, Sem.run_bind, Sem.run_pure, Result.andThen_ok, invoke, builtin, List.map_toArray, List.map_cons, List.map_nil, Builtin.min_, List.foldlM_cons, List.foldlM_nil]
        simp only [Bool.false_eq_true, if_false] at h1
        rw [h1]
        rfl
      · trivial
    · trivial
  · rename_i hc
    split
    · rename_i t ht hx
      split
      · rename_i el hu
        obtain ⟨o1, ho1, hox⟩ : ∃ o1, c.args.toList = [o1] ∧ aval G a o1 = .nilslice := by
          cases hl : c.args.toList with
          | nil => rw [hl] at hx; simp at hx
          | cons o1 r => cases r with
            | nil => rw [hl] at hx; simp at hx; exact ⟨o1, rfl, hx⟩
            | cons o2 r => rw [hl] at hx; simp at hx
        have h1 := aval_ok hG hT o1
        rw [hox] at h1
        have he : act.eval o1 = .slice none 0 0 := by generalize act.eval o1 = q at h1; cases h1; rfl
        refine .pure hS (.int .i64 0) ?_
        have e1 : c.args = #[o1] := by apply Array.ext'; simpa using ho1
        have e2 : c.argTypes = #[t] := by apply Array.ext'; simpa using ht
        rw [hex]
        simp only [resolve, hc, e1, e2, he, Sem.run_bind, Sem.run_pure, Result.andThen_ok, invoke, builtin, List.map_toArray, List.map_cons, List.map_nil]
        simp [Builtin.cap_, Sem.run_bind, run_underlying hu, goInt, Sem.run_pure]
      · trivial
    · trivial
  · trivial

theorem parts_ok {n : Nat} {G : Nat → AV} {a : Nat → AV} {act : Act} (hG : RelG g G) (hT : RelT n g a act) (parts : Array (Nat × Operand)) :
    (parts.toList.map fun p => (p.1, aval G a p.2)).map (·.1) = (parts.map fun (i, x) => (i, act.eval x)).toList.map (·.1) ∧
    RVL g ((parts.toList.map fun p => (p.1, aval G a p.2)).map (·.2)) ((parts.map fun (i, x) => (i, act.eval x)).toList.map (·.2)) := by
  constructor
  · simp [List.map_map, Function.comp_def]
  · simp only [List.map_map, Array.toList_map]
    exact ⟨by simp, fun i h1 h2 => by simp only [List.getElem_map, Function.comp]; exact aval_ok hG hT _⟩

theorem op_ok (hS : Sim B w0 g σ w) {n : Nat} {G : Nat → AV} {a : Nat → AV} {act : Act} (hG : RelG g G) (hT : RelT n g a act) (ann : Ann) (o : Oper) :
    OpGood P B w0 g o act w (aop P ann o.op (aval G a) σ) := by
  have R := fun x => aval_ok hG hT x
  obtain ⟨dst, op, type, pos, after, guard⟩ := o
  cases op with
  | move x => exact .pure hS (R x) rfl
  | assign x => exact .pure hS (R x) rfl
  | pick c x y =>
    simp only [aop]
    split
    · rename_i b hb
      have hc := R c
      rw [hb] at hc
      have hcb : act.eval c = .bool b := by cases hh : act.eval c <;> rw [hh] at hc <;> cases hc; rfl
      refine .pure (u := if b then act.eval x else act.eval y) hS (by cases b <;> simp <;> exact R _) ?_
      simp only [execOp, hcb, asBool, Sem.run_bind, Sem.run_pure, Result.andThen_ok]
    · trivial
  | alloc e =>
    simp only [aop]
    split
    · rename_i z hz
      cases hr : anew σ e (av z).cells with
      | fail => trivial
      | call f args => unfold anew at hr; split at hr <;> cases hr
      | ok r σ' =>
        have hne : av z ≠ .undef := by
          intro e0; rw [e0] at hr; simp [anew, AV.cells, AV.one] at hr
        obtain ⟨h1, h2, h3⟩ := new_ok hS ((av_ok g z).cells hne) hr
        refine ⟨_, _, _, _, h1, h2, h3, ?_, .inl rfl⟩
        simp only [execOp, Instr.alloc, Sem.run_bind, zer_run hz w, Result.andThen_ok]
        rfl
    · trivial
  | box e x =>
    simp only [aop]
    split
    · trivial
    · rename_i hu
      cases hr : anew σ e (aval G a x).cells with
      | fail => trivial
      | call f args => unfold anew at hr; split at hr <;> cases hr
      | ok r σ' =>
        have hne : aval G a x ≠ .undef := by intro e0; rw [e0] at hu; simp [AV.isUndef] at hu
        obtain ⟨h1, h2, h3⟩ := new_ok hS ((R x).cells hne) hr
        exact ⟨_, _, _, _, h1, h2, h3, rfl, .inl rfl⟩
  | build t parts =>
    obtain ⟨h1, h2⟩ := parts_ok hG hT parts
    refine .of hS fun v hv => ?_
    obtain ⟨z, h3, h4⟩ := build_ok (P := P) (w := w) h1 h2 hv
    exact ⟨z, h4, by simp only [execOp, Sem.run_bind]; rw [h3]; rfl⟩
  | buildSlice t len parts =>
    obtain ⟨h1, h2⟩ := parts_ok hG hT parts
    simp only [aop]
    cases hr : abuildSlice P σ ann t len (parts.toList.map fun p => (p.1, aval G a p.2)) with
    | fail => trivial
    | call f args =>
      unfold abuildSlice at hr
      split at hr <;> try (cases hr; done)
      split at hr <;> try (cases hr; done)
      split at hr <;> try (cases hr; done)
      split at hr <;> cases hr
    | ok r σ' =>
      obtain ⟨g', w', z, h3, h4, h5, h6⟩ := buildSlice_ok (P := P) hS h1 h2 hr
      exact ⟨g', w', z, _, h3, h4, h5, by simp only [execOp, Sem.run_bind]; rw [h6]; rfl, .inl rfl⟩
  | load t x =>
    refine .of hS fun v hv => ?_
    obtain ⟨z, h3, h4⟩ := load_ok hS (R x) hv
    exact ⟨z, h4, by simp only [execOp, Sem.run_bind]; rw [h3]; rfl⟩
  | store t x v =>
    simp only [aop]
    cases hr : astore P σ t (aval G a x) (aval G a v) with
    | fail => trivial
    | call f args =>
      unfold astore at hr
      split at hr <;> try (cases hr; done)
      split at hr <;> try (cases hr; done)
      split at hr <;> cases hr
    | ok r σ' =>
      obtain ⟨w', h3, h4, rfl⟩ := store_ok hS (R x) (R v) hr
      exact ⟨g, w', undef, .skip, .refl g, h4, .undef _, by simp only [execOp, Sem.run_bind]; rw [h3]; rfl, .inr ⟨rfl, rfl⟩⟩
  | nilCheck x =>
    simp only [aop]
    have hx := R x
    split <;> (try trivial) <;> (rename_i he; rw [he] at hx)
    · cases hh : act.eval x <;> rw [hh] at hx <;> cases hx
      refine .pure hS (.ptr _ _ _ ‹_›) ?_
      simp only [execOp, hh]; rfl
    · cases hh : act.eval x <;> rw [hh] at hx <;> cases hx
      refine .pure hS (.vptr _ _ _ _ ‹_› ‹_› ‹_›) ?_
      simp only [execOp, hh]; rfl
    · obtain ⟨fs, cs, hh, h1, h2⟩ := hx.func_inv
      refine .pure hS (.func' h1 h2) ?_
      simp only [execOp, hh]; rfl
    · cases hh : act.eval x <;> rw [hh] at hx <;> cases hx
      refine .pure hS (.iface _ _ _ ‹_›) ?_
      simp only [execOp, hh]; rfl
  | binOp op t x y yt =>
    refine .of hS fun v hv => ?_
    obtain ⟨z, h3, h4⟩ := bin_ok (P := P) (w := w) (R x) (R y) hv
    exact ⟨z, h4, by simp only [execOp]; rw [Sem.run_bind]; rw [h3]; rfl⟩
  | unOp op t x =>
    refine .of hS fun v hv => ?_
    obtain ⟨z, h3, h4⟩ := un_ok (P := P) (w := w) (R x) hv
    exact ⟨z, h4, by simp only [execOp, Sem.run_bind]; rw [h3]; rfl⟩
  | convert s d x =>
    refine .of hS fun v hv => ?_
    obtain ⟨z, h3, h4⟩ := conv_ok (P := P) (w := w) (R x) hv
    exact ⟨z, h4, by simp only [execOp, Sem.run_bind]; rw [h3]; rfl⟩
  | makeInterface t x =>
    simp only [aop]
    split
    · trivial
    · rename_i d hnd hd
      refine .pure hS (.iface t _ _ (R x)) ?_
      simp only [execOp, Instr.makeInterface, Sem.run_bind, run_underlying hd, Result.andThen_ok]
      cases d <;> first | rfl | exact absurd rfl (hnd _)
    · trivial
  | makeFunc fn first captured =>
    refine .pure hS (.func' (fs := first.map act.eval) (cs := captured.map act.eval) ?_ ?_) rfl
    · rw [Array.toList_map]; exact RVL.map_ops hG hT _
    · rw [Array.toList_map]; exact RVL.map_ops hG hT _
  | makeMap t r =>
    cases r with
    | some r => trivial
    | none =>
      simp only [aop]
      obtain ⟨h1, h2⟩ := hS.new (.map []) (.map #[] 0) 0 0 ⟨⟨w.heap.size, 0, 0⟩, #[], 0, by simp, hS.size, heap_new w _, rfl, fun k h => by simp at h⟩
      exact ⟨_, _, _, _, h1, h2, .map σ.next ⟨w.heap.size, 0, 0⟩ (by simp), rfl, .inl rfl⟩
  | makeSlice t l c =>
    simp only [aop]
    cases hr : amake P σ t (aval G a l) (aval G a c) with
    | fail => trivial
    | call f args =>
      unfold amake at hr
      split at hr <;> try (cases hr; done)
      split at hr <;> try (cases hr; done)
      split at hr <;> cases hr
    | ok r σ' =>
      obtain ⟨g', w', z, h3, h4, h5, h6⟩ := make_ok (P := P) hS (R l) (R c) hr
      exact ⟨g', w', z, _, h3, h4, h5, by simp only [execOp, Sem.run_bind]; rw [h6]; rfl, .inl rfl⟩
  | slice t x lo hi mx =>
    refine .of hS fun v hv => ?_
    obtain ⟨z, h3, h4⟩ := slice_ok (P := P) hS (R x) (RVO.map hG hT lo) (RVO.map hG hT hi) (RVO.map hG hT mx) hv
    exact ⟨z, h4, by simp only [execOp, Sem.run_bind]; rw [h3]; rfl⟩
  | fieldAddr s x f =>
    refine .of hS fun v hv => ?_
    obtain ⟨z, h3, h4⟩ := fieldAddr_ok (P := P) (w := w) (R x) hv
    exact ⟨z, h4, by simp only [execOp, Sem.run_bind]; rw [h3]; rfl⟩
  | field s x f =>
    refine .of hS fun v hv => ?_
    obtain ⟨z, h3, h4⟩ := field_ok (P := P) (w := w) (R x) hv
    exact ⟨z, h4, by simp only [execOp, Sem.run_bind]; rw [h3]; rfl⟩
  | indexAddr t x i =>
    refine .of hS fun v hv => ?_
    obtain ⟨z, h3, h4⟩ := indexAddr_ok (P := P) hS (R x) (R i) hv
    exact ⟨z, h4, by simp only [execOp, Sem.run_bind]; rw [h3]; rfl⟩
  | index t x i =>
    refine .of hS fun v hv => ?_
    obtain ⟨z, h3, h4⟩ := index_ok (P := P) (w := w) (R x) (R i) hv
    exact ⟨z, h4, by simp only [execOp, Sem.run_bind]; rw [h3]; rfl⟩
  | lookup t x k ok =>
    refine .of hS fun v hv => ?_
    obtain ⟨z, h3, h4⟩ := look_ok (P := P) hS (R x) (R k) hv
    exact ⟨z, h4, by simp only [execOp, Sem.run_bind]; rw [h3]; rfl⟩
  | mapUpdate t m k x =>
    simp only [aop]
    cases hr : amapUpdate P σ t (aval G a m) (aval G a k) (aval G a x) with
    | fail => trivial
    | call f args =>
      unfold amapUpdate at hr
      split at hr <;> try (cases hr; done)
      split at hr <;> try (cases hr; done)
      split at hr <;> try (cases hr; done)
      split at hr <;> cases hr
    | ok r σ' =>
      obtain ⟨w', h3, h4, rfl⟩ := mapUpdate_ok (P := P) hS (R m) (R k) (R x) hr
      exact ⟨g, w', undef, .skip, .refl g, h4, .undef _, by simp only [execOp, Sem.run_bind]; rw [h3]; rfl, .inr ⟨rfl, rfl⟩⟩
  | insert t m k x =>
    simp only [aop]
    cases hr : amapUpdate P σ t (aval G a m) (aval G a k) (aval G a x) with
    | fail => trivial
    | call f args =>
      unfold amapUpdate at hr
      split at hr <;> try (cases hr; done)
      split at hr <;> try (cases hr; done)
      split at hr <;> try (cases hr; done)
      split at hr <;> cases hr
    | ok r σ' =>
      obtain ⟨w', h3, h4, rfl⟩ := mapUpdate_ok (P := P) hS (R m) (R k) (R x) hr
      exact ⟨g, w', undef, .skip, .refl g, h4, .undef _, by simp only [execOp, Sem.run_bind]; rw [h3]; rfl, .inr ⟨rfl, rfl⟩⟩
  | extract x i =>
    refine .of hS fun v hv => ?_
    obtain ⟨z, h3, h4⟩ := ext_ok (P := P) (w := w) (R x) hv
    exact ⟨z, h4, by simp only [execOp, Sem.run_bind]; rw [h3]; rfl⟩
  | range t x =>
    simp only [aop]
    split
    · rename_i s hu hx
      have hr := R x
      rw [hx] at hr
      have he : act.eval x = .string s := by generalize act.eval x = q at hr; cases hr; rfl
      obtain ⟨h1, h2⟩ := hS.new (.siter s 0) (.stringIter s 0) 0 0 ⟨⟨w.heap.size, 0, 0⟩, by simp, hS.size, heap_new w _⟩
      refine ⟨_, w.alloc (.stringIter s 0), _, _, h1, h2, .ptr σ.next 0 ⟨w.heap.size, 0, 0⟩ (by simp), ?_, .inl rfl⟩
      simp only [execOp, he, Instr.range, Sem.run_bind, run_underlying hu, Result.andThen_ok, Sem.run_pure]
      rfl
    · trivial
  | next x isS =>
    simp only [aop]
    split
    · rename_i id hx
      split
      · rename_i s pos ho
        have hr := R x
        rw [hx] at hr
        have hob := hS.objs id
        rw [ho] at hob
        obtain ⟨i, h1, h2, h3⟩ := hob
        have he : act.eval x = .pointer (some ⟨i.blk, 0, none⟩) := by
          generalize act.eval x = q at hr
          cases hr
          rename_i i' hi'
          rw [h1] at hi'; cases hi'; rfl
        have hget : (getObj i.blk).run P w = .ok (.stringIter s pos) w := by
          simp [getObj, Sem.run, h3]
        split
        · rename_i hlt
          refine ⟨g, { w with heap := w.heap.setIfInBounds i.blk (.stringIter s (pos + (Utf8.decode s pos).2)) }, .tuple #[.bool true, goInt pos, .int .i32 (Utf8.decode s pos).1], .value (.tuple #[.bool true, goInt pos, .int .i32 (Utf8.decode s pos).1]), .refl g, ?_, ?_, ?_, .inl rfl⟩
          · refine hS.write (w' := { w with heap := w.heap.setIfInBounds i.blk (.stringIter s (pos + (Utf8.decode s pos).2)) }) h1 (by rw [ho]; simp) ?_ rfl rfl rfl (by simp) (fun b hb => by simp [Array.getElem?_setIfInBounds_ne (Ne.symm hb)]) (.siter s (pos + (Utf8.decode s pos).2)) ⟨i, h1, h2, by
              have hlt' := (Array.getElem?_eq_some_iff.1 h3).1
              simp [hlt']⟩
            intro o
            cases hv : g.F i.blk o with
            | none => rfl
            | some v => have := hS.froz _ _ _ hv; simp [World.cell?, h3] at this
          · exact .tuple' (vs := #[.bool true, goInt pos, .int .i32 (Utf8.decode s pos).1]) (.cons (.bool true) (.cons (.int .i64 _) (.cons (.int .i32 _) (.nil g))))
          · simp only [execOp, he, Instr.next, Sem.run_bind, hget, Result.andThen_ok, hlt, if_true, setObj, Sem.run, Sem.run_pure, h3]
        · rename_i hlt
          refine .pure (u := .tuple #[.bool false]) hS (.tuple' (.cons (.bool false) (.nil g))) ?_
          simp only [execOp, he, Instr.next, Sem.run_bind, hget, Result.andThen_ok, hlt, if_false, Sem.run_pure]
      · trivial
    · trivial
  | call c => exact call_ok hS hG hT rfl
  | _ => trivial

/-- An operation, and what is told of it: its result may become a value. -/
def aopF (P : Program) (ann : Ann) (o : Oper) (ρ : Operand → AV) (σ : State) : Res :=
  match aop P ann o.op ρ σ with
  | .ok v σ' => if ann = .frz then
      match elT P o.type with
      | some e => match kindT P e with
        | some k => afreeze σ' k v
        | none => .fail
      | none => .fail
    else .ok v σ'
  | r => r

theorem opF_ok (hS : Sim B w0 g σ w) {n : Nat} {G : Nat → AV} {a : Nat → AV} {act : Act} (hG : RelG g G) (hT : RelT n g a act) (ann : Ann) (o : Oper) :
    OpGood P B w0 g o act w (aopF P ann o (aval G a) σ) := by
  have h := op_ok (P := P) hS hG hT ann o
  unfold aopF
  split
  · rename_i v σ' hr
    rw [hr] at h
    split
    · split
      · split
        · rename_i k hk
          obtain ⟨g', w', u, nx, h1, h2, h3, h4, h5⟩ := h
          cases hf : afreeze σ' k v with
          | fail => trivial
          | call f args =>
            unfold afreeze at hf
            split at hf <;> try (cases hf; done)
            split at hf <;> try (cases hf; done)
            split at hf <;> cases hf
          | ok r σ'' =>
            obtain ⟨g'', k1, k2, k3⟩ := freeze_ok h2 h3 hf
            exact ⟨g'', w', u, nx, h1.trans k1, k2, k3, h4, h5⟩
        · trivial
      · trivial
    · exact h
  · exact h

end
end Go.V
