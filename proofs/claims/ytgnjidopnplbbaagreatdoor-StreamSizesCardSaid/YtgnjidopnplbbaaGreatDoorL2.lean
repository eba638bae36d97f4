/- The entry into a law: from the condition on what calls return to the statement. -/
import Derived.Test.YtgnjidopnplbbaaGreatDoorL1
import Derived.ChangeSame
import Derived.ChangeVars
import Derived.JoinedOf
import Derived.Carry
import Derived.OpenShut
set_option maxRecDepth 100000
set_option linter.unusedVariables false
set_option linter.unusedSimpArgs false
set_option linter.unusedSectionVars false
namespace Go.V
open Go Go.Proofs Go.ChangeShapes Go.WideShapes Go.RowKit

/-- The variable that the rows list. -/
def laidL : List (String × DataW Unit) := [("riparian/prog.calculations", Go.Proofs.YtgnjidopnplbbaaGreatDoor.Rows.laid_riparian_prog_calculations)]

theorem glob0 : Tryz.prog.globalNamed "riparian/prog.calculations" = some 0 := by kernel_rfl
theorem globT : (Tryz.prog.globals[0]?).map (·.type) = some 313 := by kernel_rfl
theorem un313 : Tryz.prog.underlying 313 = some (.array 6 9) := by kernel_rfl
theorem co313 : Tryz.prog.cellsOf 313 = 6 := by kernel_rfl

theorem str_of {s : ByteArray} {l : List UInt8} (h : s.data.toList = l) : s = ⟨l.toArray⟩ := by
  cases s with
  | mk d => simp only [ByteArray.mk.injEq] at *; rw [← h]

theorem relG_of_laid {W : World} (h : laidMetH Tryz.prog laidL W) : RelG (ghost0 W) G1 := by
  have h : laidMet Tryz.prog laidL W := h
  obtain ⟨ps, hv, _, _⟩ := h
  obtain ⟨g, t, cs, fuel, p, q, e1, e2, e3, e4, _, _⟩ := hv
  obtain rfl : (0 : Nat) = g := Option.some.inj (glob0.symm.trans e1)
  obtain rfl : (313 : Nat) = t := Option.some.inj (globT.symm.trans e2)
  obtain ⟨xs, m, _, hx, hl, hxl, hf⟩ := DataW.trod_array un313 e4
  rw [co313] at hl
  have hd := (Prod.mk.inj hx).1
  have hstr : ∀ i, i < 6 → ∃ (s : ByteArray), cs.toList[i]? = some (.string s) ∧ xs[i]? = some (.lit (.string s.data.toList), []) := fun i hi => by
    have k := hf i hi
    rw [co9, Nat.mul_one] at k
    have hi' : i < xs.length := by omega
    rw [List.getElem?_eq_getElem hi'] at k
    obtain ⟨s, k1, k2, _⟩ := DataW.trod_string un9 k
    refine ⟨s, ?_, by rw [List.getElem?_eq_getElem hi', k2]⟩
    have := congrArg (·[0]?) k1
    simpa [List.getElem?_take, List.getElem?_drop] using this
  have hds : ∀ i, i < 6 → ∀ s : ByteArray, xs[i]? = some (.lit (.string s.data.toList), []) → (xs.map (·.1))[i]? = some (DataW.lit (.string s.data.toList)) := fun i hi s k => by
    rw [List.getElem?_map, k]; rfl
  intro k
  cases k with
  | succ k => exact .undef _
  | zero =>
    have key : ∀ i (x : List UInt8), i < 6 → ([[43], [45], [42], [47], [109, 111, 100], [45]] : List (List UInt8))[i]? = some x → cs[i]? = some (.string ⟨x.toArray⟩) := fun i x hi hx' => by
      obtain ⟨s, k1, k2⟩ := hstr i hi
      have k3 := hds i hi s k2
      have hd' : xs.map (·.1) = ([[43], [45], [42], [47], [109, 111, 100], [45]] : List (List UInt8)).map fun x => DataW.lit (.string x) := by
        have : DataW.agg (xs.map (·.1)) = DataW.agg (([[43], [45], [42], [47], [109, 111, 100], [45]] : List (List UInt8)).map fun x => DataW.lit (.string x)) := hd.symm
        exact DataW.agg.inj this
      rw [hd', List.getElem?_map, hx'] at k3
      have k4 : x = s.data.toList := by simpa using k3
      rw [k4, ← str_of rfl, ← k1]; simp
    have hsz : cs.size = 6 := by simpa using hl
    obtain ⟨l⟩ := cs
    simp only [List.size_toArray] at hsz
    have hl' : l = [.string ⟨#[43]⟩, .string ⟨#[45]⟩, .string ⟨#[42]⟩, .string ⟨#[47]⟩, .string ⟨#[109, 111, 100]⟩, .string ⟨#[45]⟩] := by
      have k0 := key 0 _ (by omega) rfl
      have k1 := key 1 _ (by omega) rfl
      have k2 := key 2 _ (by omega) rfl
      have k3 := key 3 _ (by omega) rfl
      have k4 := key 4 _ (by omega) rfl
      have k5 := key 5 _ (by omega) rfl
      match l, hsz with
      | [a, b, c, d, e, f], _ =>
        simp at k0 k1 k2 k3 k4 k5
        rw [k0, k1, k2, k3, k4, k5]
    subst hl'
    refine .vptr _ 0 0 _ rfl (fun i hi => ?_) (RVL.cons (.str _) (.cons (.str _) (.cons (.str _) (.cons (.str _) (.cons (.str _) (.cons (.str _) (.nil _))))))).2
    show W.cell? ⟨0, 0 + i, none⟩ = _
    rw [Nat.zero_add, World.var?_cell glob0 e3 i, ← Array.getElem?_toList, List.getElem?_eq_getElem hi]

theorem trodAll_behind {H : Type} {enc : TypeId × Value → H} {W W' : World} (hb : Below W.heap.size W W') (hl : laidOutB Tryz.prog = true) : ∀ {ts : List TypeId} {vs : List Value} {ds : List (DataW H)} {ps : List MemPlace},
    (∀ t ∈ ts, Tryz.prog.readableRec t = true ∧ t < Tryz.prog.types.size) → DataW.TrodAll enc Tryz.prog W 0 (fun _ => true) true ts vs ds ps → (∀ x ∈ ps, x.block < W.heap.size) →
    DataW.TrodAll enc Tryz.prog W' 0 (fun b => decide (b < W.heap.size)) true ts vs ds ps
  | [], [], [], _, _, h, _ => h
  | t :: ts, v :: vs, d :: ds, ps, ht, ⟨p, q, h1, h2, e⟩, hlt => by
    subst e
    exact ⟨p, q, Below.trod hl (ht t (.head _)).1 (ht t (.head _)).2 h1 hb fun x hx => hlt x (List.mem_append_left _ hx),
      trodAll_behind hb hl (fun t' h' => ht t' (.tail _ h')) h2 fun x hx => hlt x (List.mem_append_right _ hx), rfl⟩
  | [], [], _ :: _, _, _, h, _ => h.elim
  | [], _ :: _, _, _, _, h, _ => by cases ‹List (DataW H)› <;> exact h.elim
  | _ :: _, [], _, _, _, h, _ => by cases ‹List (DataW H)› <;> exact h.elim
  | _ :: _, _ :: _, [], _, _, h, _ => h.elim

theorem trodAll_len {H : Type} {enc : TypeId × Value → H} {P : Program} {W : World} {b : Nat} {sp : Nat → Bool} {held : Bool} : ∀ {ts : List TypeId} {vs : List Value} {ds : List (DataW H)} {ps : List MemPlace}, DataW.TrodAll enc P W b sp held ts vs ds ps → ds.length = ts.length
  | [], [], [], _, _ => rfl
  | t :: ts, v :: vs, d :: ds, ps, ⟨p, q, h1, h2, e⟩ => by simp [trodAll_len h2]
  | [], [], _ :: _, _, h => h.elim
  | [], _ :: _, _, _, h => by cases ‹List (DataW H)› <;> exact h.elim
  | _ :: _, [], _, _, h => by cases ‹List (DataW H)› <;> exact h.elim
  | _ :: _, _ :: _, [], _, h => h.elim

theorem Tryz.own : ownKnob Tryz.prog.godebug = none := by kernel_rfl
theorem Tryz.laidOut : laidOutB Tryz.prog = true := by kernel_rfl

/-- A world that meets the condition: the settled one, the variable's cells laid. -/
noncomputable def laidWorld (os : Os) : World :=
  let w0 := World.holding Tryz.prog os ⟨#[], #[], []⟩
  { w0 with heap := w0.heap.modify 0 fun
      | .cells _ t frozen => .cells #[.string ⟨#[43]⟩, .string ⟨#[45]⟩, .string ⟨#[42]⟩, .string ⟨#[47]⟩, .string ⟨#[109, 111, 100]⟩, .string ⟨#[45]⟩] t frozen
      | o => o }
theorem laidWorld_met (os : Os) (args : Array Value) : laidMetH Tryz.prog laidL ((laidWorld os).forCall (fun _ _ => 0) ⟨#[], args, []⟩).memory :=
  show laidMet Tryz.prog laidL _ from laidMet_of_run' 10 (by kernel_rfl) (by kernel_rfl)

/-- A law: what the call returns, shown of abstract values, is what the row says. -/
theorem lifted {f : FuncId} {fn : Func} {s : ChangeSpec} (hfn : Tryz.prog.funcs[f]? = some fn) (hno : Tryz.prog.inits.idxOf? f = none) (hres : fn.resultTypes = #[4]) (hvars : s.vars = [])
    (hs : ∀ (H : Type) (ds : List (DataW H)), ds.length = fn.params.size → s.fn H ds = { results := [.lit (.bool true)], args := ds })
    (hty : ∀ t ∈ fn.params.toList, Tryz.prog.readableRec t = true ∧ t < Tryz.prog.types.size)
    (main : ∀ (H : Type) (enc : TypeId × Value → H) (W : World) (base : Nat) (args : Array Value) (ds : List (DataW H)) (p : List MemPlace), (∀ (j : Nat) t v, fn.params[j]? = some t → args[j]? = some v → Value.okWide Tryz.prog W .any base t v) → DataW.TrodAll enc Tryz.prog W 0 (fun _ => true) true fn.params.toList args.toList ds p →
      ∃ avs, RVL (ghost0 W) avs args.toList ∧ ACalls (EV W.heap.size W G1) f avs noObj (fun v _ => v = .bool true))
    (os : Os) (started : os.Started) (H : Type) (enc : TypeId × Value → H)
    (witness : ∃ (w : World) (tape : Tape) (i : Input), w.os = os ∧ (w.forCall tape i).Shaped Tryz.checked.prog ∧ i.vars = [] ∧ Input.okWide Tryz.checked.prog (w.forCall tape i) .any w.heap.size f i ∧
      ((s.pre enc Tryz.checked.prog fn [] false (w.forCall tape i).memory i.args ∧ laidMetH Tryz.prog laidL (w.forCall tape i).memory) ∧ sizedMet enc Tryz.checked.prog fn (OpenSpec.ofChange s) false (w.forCall tape i).memory i.args) ∧
        ({} : Assume).holds Tryz.checked.prog (lone (Frame.enter Tryz.checked.prog f i.args .normal) [] (w.forCall tape i))) :
    ReturnsInHanded {} Tryz.checked os f .any (fun w args => (s.pre enc Tryz.prog fn [] false w args ∧ laidMetH Tryz.prog laidL w) ∧ sizedMet enc Tryz.prog fn (OpenSpec.ofChange s) false w args)
      (s.post enc Tryz.prog fn false true false false) := by
  refine returnsInHanded_of_change_and (C := Tryz.checked) (X := fun w _ => laidMetH Tryz.prog laidL w) (fun _ _ _ hh h => h.of_heap hh) Tryz.own started hno hfn witness ?_
  intro W base args ds gs before hval0 hW _ _ hL _
  have hW' := hW
  obtain ⟨p, q, hA, hV, rfl, hfz, hnd⟩ := hW
  rw [hvars] at hV
  obtain ⟨rfl, rfl⟩ : gs = [] ∧ q = [] := by
    cases gs with
    | nil => exact ⟨rfl, hV⟩
    | cons g r => exact absurd hV (by intro h; cases h)
  obtain ⟨avs, ha, hc⟩ := main H enc W base args ds p hval0 hA
  have hpar : ds.length = fn.params.size := by simpa using trodAll_len hA
  have hlt : ∀ x ∈ p, x.block < W.heap.size := fun x hx => by
    have := hW'.lt x (List.mem_append_left _ hx)
    simpa using this
  refine (hc.run (ghost0 W) W args (relG_of_laid hL) (sim0 W) ha).mono fun e W' hp => ?_
  cases e with
  | returned v =>
    obtain ⟨g', σ', a, hle, hsim, hv, rfl⟩ := hp
    cases hv
    have hb : Below W.heap.size W W' := hsim.below
    refine ⟨_, rfl, ds, [], p ++ [], [], p, [], hW', ?_, ?_, ?_, hb.frame _, fun h => by cases h⟩
    · rw [hs H (ds ++ []) (by simpa using hpar), hres]
      exact trodAll_mk1 (shut_bool un4 true)
    · rw [hs H (ds ++ []) (by simpa using hpar)]
      simp only [List.append_nil]
      exact trodAll_behind hb Tryz.laidOut hty hA hlt
    · rw [hs H (ds ++ []) (by simpa using hpar), hvars]; rfl
  | outgrown => exact hp.elim
  | panicked c => exact hp.elim

section
variable {H : Type} {enc : TypeId × Value → H} {W : World} {base : Nat} {sp : Nat → Bool} {held : Bool} {t : TypeId} {v : Value} {d : DataW H} {p : List MemPlace}
theorem arg_int {k : IntKind} (hu : Tryz.prog.underlying t = some (.int k)) (ho : Value.okWide Tryz.prog W .any base t v) (h : DataW.Trod enc Tryz.prog W 0 sp held t v d p) : ∃ x, RV (ghost0 W) (.int k x) v := by
  obtain ⟨n, rfl⟩ := okWide_int hu ho
  exact ⟨n, .int _ _⟩
theorem arg_slice {e : TypeId} {α : Type} {f : α → AV} (hu : Tryz.prog.underlying t = some (.slice e)) (hp : ∀ n, Pull enc Tryz.prog W sp held n t (fun a => [f a])) (ho : Value.okWide Tryz.prog W .any base t v) (h : DataW.Trod enc Tryz.prog W 0 sp held t v d p) : ∃ x, RV (ghost0 W) (f x) v := by
  obtain ⟨a, len, cap, rfl⟩ := okWide_slice hu ho
  obtain ⟨fuel, hf⟩ := h
  obtain ⟨x, hx⟩ := hp fuel _ _ _ hf
  obtain ⟨u, us, e1, h1, _⟩ := hx.cons_inv
  simp [Value.cells] at e1
  rw [← e1.1] at h1
  exact ⟨x, h1⟩
theorem arg_struct {α : Type} {f : α → List AV} {l : List (TypeId × Nat)} (hu : fieldsOf Tryz.prog t = l) (h0 : l ≠ []) (hp : ∀ n, Pull enc Tryz.prog W sp held n t f) (ho : Value.okWide Tryz.prog W .any base t v) (h : DataW.Trod enc Tryz.prog W 0 sp held t v d p) : ∃ x, RV (ghost0 W) (.agg (f x)) v := by
  obtain ⟨fs, h1, h2⟩ := fieldsOf_some hu h0
  obtain ⟨cs, rfl, _⟩ := okWide_struct h1 ho
  obtain ⟨fuel, hf⟩ := h
  obtain ⟨x, hx⟩ := hp fuel _ _ _ hf
  refine ⟨x, .agg _ _ (by simpa [Value.cells] using hx.1) fun i h1 h2 => ?_⟩
  have := hx.2 i h1 (by simpa [Value.cells] using h2)
  simpa [Value.cells] using this
end
end Go.V
