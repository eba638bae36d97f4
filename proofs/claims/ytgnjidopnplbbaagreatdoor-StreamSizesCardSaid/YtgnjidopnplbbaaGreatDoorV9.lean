/- The V-model, part 9: maps, and all operations together. -/
import Derived.Test.YtgnjidopnplbbaaGreatDoorV8
set_option linter.unusedSimpArgs false
set_option linter.unusedVariables false
namespace Go.V
open Go.RowKit

section
variable {P : Program} {B : Nat} {w0 : World} {g : Ghost} {σ : State} {w : World}

/-- Entries of a map, abstract and real. -/
def RVM (g : Ghost) (es : List (AV × AV)) (ms : List MapEntry) : Prop := es.length = ms.length ∧ ∀ k (h : k < es.length) (h' : k < ms.length), RV g (es[k]).1 (ms[k]).key ∧ RV g (es[k]).2 (ms[k]).val

theorem RVM.cons_inv {g : Ghost} {e : AV × AV} {es : List (AV × AV)} {ms : List MapEntry} (h : RVM g (e :: es) ms) : ∃ m ms', ms = m :: ms' ∧ RV g e.1 m.key ∧ RV g e.2 m.val ∧ RVM g es ms' := by
  obtain ⟨hl, hr⟩ := h
  cases ms with
  | nil => simp at hl
  | cons m ms =>
    obtain ⟨h1, h2⟩ := hr 0 (by simp) (by simp)
    exact ⟨m, ms, rfl, h1, h2, by simpa using hl, fun k a b => hr (k + 1) (by simpa using a) (by simpa using b)⟩

theorem findNow_ok {k : Nat} {d : TypeDesc} (hd : P.underlying k = some d) {key : AV} {kv : Value} (hk : RV g key kv) (hs : akeyOk P k key = true) (hnd : ∀ fs, d ≠ .struct fs) :
    ∀ (es : List (AV × AV)) (ms : List MapEntry) (i : Nat) (r : Option (Nat × AV)), RVM g es ms → akey P k key es i = some r →
      ∃ r', Instr.findNow d kv ms i = some r' ∧ ((r = none ∧ r' = none) ∨ ∃ j v u, r = some (j, v) ∧ r' = some (j, u) ∧ RV g v u ∧ i ≤ j ∧ j < i + es.length) := by
  intro es
  induction es with
  | nil =>
    intro ms i r h ha
    have : ms = [] := by have := h.1; cases ms with | nil => rfl | cons => simp at this
    subst this
    simp only [akey] at ha; cases ha
    exact ⟨none, rfl, .inl ⟨rfl, rfl⟩⟩
  | cons e es ih =>
    intro ms i r h ha
    obtain ⟨m, ms', rfl, h1, h2, h3⟩ := h.cons_inv
    simp only [akey] at ha
    have key1 : ∀ b, aeq P k key e.1 = some b → Instr.sameNow d kv m.key = some b := by
      intro b hb
      have hb1 : aeq1 P k key e.1 = some b := by
        unfold aeq at hb
        split at hb
        · rename_i xs ys hx
          unfold akeyOk at hs
          rw [hd] at hs
          cases d <;> first | (exact absurd rfl (hnd _)) | (simp at hs; done)
        · exact hb
      unfold aeq1 at hb1
      rw [hd] at hb1
      generalize hq : e.1 = q at h1 hb1
      generalize hmk : m.key = mk at h1 ⊢
      split at hb1
      · rename_i hd'
        cases hd'
        split at hb1
        · rename_i hk'
          subst hk'
          cases hb1; cases hk; cases h1
          simp [Instr.sameNow]
        · cases hb1
      · rename_i hd'
        cases hd'
        cases hb1; cases hk; cases h1
        simp only [Instr.sameNow]
        rw [beq_toListBytes, toList_data]
      · rename_i hd'
        cases hd'
        cases hb1; cases hk; cases h1
        simp [Instr.sameNow]
      · cases hb1
    split at ha
    · rename_i he
      cases ha
      refine ⟨some (i, m.val), by simp only [Instr.findNow, key1 _ he], .inr ⟨i, _, _, rfl, rfl, h2, Nat.le_refl _, by simp⟩⟩
    · rename_i he
      obtain ⟨r', h4, h5⟩ := ih ms' (i + 1) r h3 ha
      refine ⟨r', by simp only [Instr.findNow, key1 _ he]; exact h4, ?_⟩
      rcases h5 with h5 | ⟨j, v, u, a, b, c, d, e⟩
      · exact .inl h5
      · exact .inr ⟨j, v, u, a, b, c, by omega, by simp; omega⟩
    · cases ha

theorem findAsking_ok {k : Nat} {key : AV} {kv : Value} (hk : RV g key kv) :
    ∀ (es : List (AV × AV)) (ms : List MapEntry) (i : Nat) (r : Option (Nat × AV)), RVM g es ms → akey P k key es i = some r →
      ∃ r', (Instr.findAsking k kv ms i).run P w = .ok r' w ∧ ((r = none ∧ r' = none) ∨ ∃ j v u, r = some (j, v) ∧ r' = some (j, u) ∧ RV g v u ∧ i ≤ j ∧ j < i + es.length) := by
  intro es
  induction es with
  | nil =>
    intro ms i r h ha
    have : ms = [] := by have := h.1; cases ms with | nil => rfl | cons => simp at this
    subst this
    simp only [akey] at ha; cases ha
    exact ⟨none, rfl, .inl ⟨rfl, rfl⟩⟩
  | cons e es ih =>
    intro ms i r h ha
    obtain ⟨m, ms', rfl, h1, h2, h3⟩ := h.cons_inv
    simp only [akey] at ha
    have key1 : ∀ b, aeq P k key e.1 = some b → (Op.equal k kv m.key).run P w = .ok b w := fun b hb => eq_ok (d := 9998) hk h1 hb
    split at ha
    · rename_i he
      cases ha
      refine ⟨some (i, m.val), by simp only [Instr.findAsking, Sem.run_bind, key1 _ he, Result.andThen_ok, if_true, Sem.run_pure], .inr ⟨i, _, _, rfl, rfl, h2, Nat.le_refl _, by simp⟩⟩
    · rename_i he
      obtain ⟨r', h4, h5⟩ := ih ms' (i + 1) r h3 ha
      refine ⟨r', by simp only [Instr.findAsking, Sem.run_bind, key1 _ he, Result.andThen_ok, Bool.false_eq_true, if_false]; exact h4, ?_⟩
      rcases h5 with h5 | ⟨j, v, u, a, b, c, d, e⟩
      · exact .inl h5
      · exact .inr ⟨j, v, u, a, b, c, by omega, by simp; omega⟩
    · cases ha

theorem checkFields_ok {e : Bool} {n : Nat} {cs : List AV} {vs : Array Value} (hr : RVL g cs vs.toList) : ∀ (fs : List Field),
    (fs.all fun f => f.name != "_" && match P.underlying f.type, apart P f.type cs f.offset with
      | some (.int _), some (.int _ _) => true
      | some .string, some (.str _) => true
      | some .bool, some (.bool _) => true
      | _, _ => false) = true →
    (forIn fs PUnit.unit fun f (_ : PUnit) => (do if f.name ≠ "_" then Instr.checkKey e (n + 1) f.type (← part f.type vs f.offset)
                                                   pure (ForInStep.yield PUnit.unit) : Sem (ForInStep PUnit))).run P w = .ok PUnit.unit w
  | [], _ => rfl
  | f :: fs, h => by
    simp only [List.all_cons, Bool.and_eq_true] at h
    obtain ⟨⟨hn, hf⟩, hfs⟩ := h
    have hn' : f.name ≠ "_" := by simpa using hn
    have ih := checkFields_ok (e := e) (n := n) hr fs hfs
    have hck : ∃ u, (part f.type vs f.offset).run P w = .ok u w ∧ (Instr.checkKey e (n + 1) f.type u).run P w = .ok () w := by
      split at hf
      · rename_i hu ha
        obtain ⟨u, h1, h2⟩ := apart_part ha hr w
        cases h2
        exact ⟨_, h1, by simp only [Instr.checkKey, Sem.run_bind, run_underlying hu, Result.andThen_ok]; rfl⟩
      · rename_i hu ha
        obtain ⟨u, h1, h2⟩ := apart_part ha hr w
        cases h2
        exact ⟨_, h1, by simp only [Instr.checkKey, Sem.run_bind, run_underlying hu, Result.andThen_ok]; rfl⟩
      · rename_i hu ha
        obtain ⟨u, h1, h2⟩ := apart_part ha hr w
        cases h2
        exact ⟨_, h1, by simp only [Instr.checkKey, Sem.run_bind, run_underlying hu, Result.andThen_ok]; rfl⟩
      · cases hf
    obtain ⟨u, h1, h2⟩ := hck
    simp only [List.forIn_cons, Sem.run_bind, if_pos hn', h1, h2, Result.andThen_ok, Sem.run_pure]
    exact ih

theorem checkKey_ok {e : Bool} {n k : Nat} {key : AV} {kv : Value} (hk : RV g key kv) (hs : akeyOk P k key = true) : (Instr.checkKey e (n + 2) k kv).run P w = .ok () w := by
  unfold akeyOk at hs
  split at hs
  · rename_i hu; cases hk
    simp only [Instr.checkKey, Sem.run_bind, run_underlying hu, Result.andThen_ok]; rfl
  · rename_i hu; cases hk
    simp only [Instr.checkKey, Sem.run_bind, run_underlying hu, Result.andThen_ok]; rfl
  · rename_i hu; cases hk
    simp only [Instr.checkKey, Sem.run_bind, run_underlying hu, Result.andThen_ok]; rfl
  · rename_i fs cs hu
    obtain ⟨vs, rfl, hv⟩ := hk.agg_inv
    rw [Bool.and_eq_true] at hs
    have := checkFields_ok (P := P) (w := w) (e := e) (n := n) hv fs.toList hs.2
    rw [Instr.checkKey]
    simp only [Sem.run_bind, run_underlying hu, Result.andThen_ok]
    rw [← Array.forIn_toList]
    simp only [Sem.run_bind] at this
    rw [this]
    rfl
  · cases hs

theorem findKey_ok {k : Nat} {key : AV} {kv : Value} (hk : RV g key kv) (hs : akeyOk P k key = true) {es : List (AV × AV)} {ms : List MapEntry} {r : Option (Nat × AV)} (h : RVM g es ms) (ha : akey P k key es 0 = some r) :
    ∃ r', (Instr.findKey k kv ms).run P w = .ok r' w ∧ ((r = none ∧ r' = none) ∨ ∃ j v u, r = some (j, v) ∧ r' = some (j, u) ∧ RV g v u ∧ j < es.length) := by
  cases hd : P.underlying k with
  | none => unfold akeyOk at hs; rw [hd] at hs; simp at hs
  | some d =>
    by_cases hst : ∃ fs, d = .struct fs
    · obtain ⟨fs, rfl⟩ := hst
      obtain ⟨r', h1, h2⟩ := findAsking_ok (P := P) (w := w) (k := k) hk es ms 0 r h ha
      refine ⟨r', ?_, ?_⟩
      · simp only [Instr.findKey, Sem.run_bind, run_underlying hd, Result.andThen_ok]
        cases ms with
        | nil =>
          simp only [Instr.findAsking, Sem.run_pure] at h1
          simp only [Instr.findNow]
          exact h1
        | cons m ms' =>
          have : Instr.findNow (.struct fs) kv (m :: ms') 0 = none := by
            simp only [Instr.findNow]
            have : Instr.sameNow (.struct fs) kv m.key = none := by unfold Instr.sameNow; rfl
            rw [this]
          rw [this]
          exact h1
      · rcases h2 with h2 | ⟨j, v, u, a, b, c, _, e⟩
        · exact .inl h2
        · exact .inr ⟨j, v, u, a, b, c, by omega⟩
    · obtain ⟨r', h1, h2⟩ := findNow_ok hd hk hs (fun fs e => hst ⟨fs, e⟩) es ms 0 r h ha
      refine ⟨r', ?_, ?_⟩
      · simp only [Instr.findKey, Sem.run_bind, run_underlying hd, Result.andThen_ok, h1, Sem.run_pure]
      · rcases h2 with h2 | ⟨j, v, u, a, b, c, _, e⟩
        · exact .inl h2
        · exact .inr ⟨j, v, u, a, b, c, by omega⟩

theorem Sim.map (hS : Sim B w0 g σ w) {id : Nat} {es : List (AV × AV)} (ho : σ.objs id = .map es) : ∃ i ms clock, g.info id = some i ∧ B ≤ i.blk ∧ w.heap[i.blk]? = some (.map ms clock) ∧ RVM g es ms.toList := by
  have := hS.objs id
  rw [ho] at this
  obtain ⟨i, ms, cl, h1, h2, h3, h4, h5⟩ := this
  exact ⟨i, ms, cl, h1, h2, h3, by simpa using h4, fun k a b => by simpa using h5 k a (by simpa using b)⟩

theorem amap_inv {t k e : Nat} (h : amap P t = some (k, e)) : P.underlying t = some (.map k e) := by
  unfold amap at h
  split at h
  · rename_i k' e' hu; cases h; exact hu
  · cases h

theorem zer_run {e : Nat} {z : Value} (h : zerT P e = some z) (w : World) : (zeroValue e).run P w = .ok z w := by
  unfold zerT at h
  cases hi : P.info? e with
  | none => simp [hi] at h
  | some i => simp [hi] at h; simp [zeroValue, typeInfo, hi, h]

theorem mapOf_ok (hS : Sim B w0 g σ w) {x : AV} {u : Value} (hx : RV g x u) {es : List (AV × AV)} (h : amapOf σ x = some es) :
    ∃ ms : Array MapEntry, RVM g es ms.toList ∧ ((u = .map none ∧ ms = #[]) ∨ ∃ b clock, u = .map (some b) ∧ w.heap[b]? = some (.map ms clock)) := by
  unfold amapOf at h
  split at h
  · cases h; cases hx
    exact ⟨#[], ⟨rfl, fun k h => by simp at h⟩, .inl ⟨rfl, rfl⟩⟩
  · rename_i id
    split at h
    · rename_i es ho
      cases h
      cases hx with
      | map _ i hi =>
        obtain ⟨i', ms, cl, h1, h2, h3, h4⟩ := hS.map ho
        rw [hi] at h1; cases h1
        exact ⟨ms, h4, .inr ⟨_, cl, rfl, h3⟩⟩
    · cases h
  · cases h

theorem lookup_ok (hS : Sim B w0 g σ w) {t : Nat} {x key r : AV} {ok : Bool} {u kv : Value} (hx : RV g x u) (hk : RV g key kv) (h : alookup P σ t x key ok = some r) : ∃ z, (Instr.lookup t u kv ok).run P w = .ok z w ∧ RV g r z := by
  unfold alookup at h
  split at h
  case h_2 => cases h
  rename_i k e hm
  have hu := amap_inv hm
  split at h
  case isFalse => cases h
  rename_i hs
  split at h
  case h_2 => cases h
  rename_i es hes
  obtain ⟨ms, hrm, hrun⟩ := mapOf_ok hS hx hes
  have hck : (Instr.checkKey ms.isEmpty 10000 k kv).run P w = .ok () w := checkKey_ok (n := 9998) hk hs
  split at h
  · rename_i j v hak
    cases h
    obtain ⟨r', hf, hr'⟩ := findKey_ok (P := P) (w := w) hk hs hrm hak
    rcases hr' with ⟨h0, _⟩ | ⟨j', v', uv, he, rfl, hv, _⟩
    · cases h0
    · cases he
      refine ⟨if ok then .tuple #[uv, .bool true] else uv, ?_, ?_⟩
      · rcases hrun with ⟨rfl, rfl⟩ | ⟨b, cl, rfl, hb⟩
        · simp only [Instr.lookup, Sem.run_bind, run_underlying hu, Result.andThen_ok, Sem.run_pure, hck, hf]
        · simp only [Instr.lookup, Sem.run_bind, run_underlying hu, Result.andThen_ok, Sem.run_pure, getObj, Sem.run, hb, hck, hf]
      · cases ok
        · exact hv
        · exact .tuple' (.cons hv (.cons (.bool _) (.nil g)))
  · rename_i hak
    obtain ⟨r', hf, hr'⟩ := findKey_ok (P := P) (w := w) hk hs hrm hak
    rcases hr' with ⟨_, rfl⟩ | ⟨j', v', uv, he, _⟩
    · split at h
      · rename_i z hz
        cases h
        refine ⟨if ok then .tuple #[z, .bool false] else z, ?_, ?_⟩
        · rcases hrun with ⟨rfl, rfl⟩ | ⟨b, cl, rfl, hb⟩
          · simp only [Instr.lookup, Sem.run_bind, run_underlying hu, Result.andThen_ok, Sem.run_pure, hck, hf, zer_run hz w]
          · simp only [Instr.lookup, Sem.run_bind, run_underlying hu, Result.andThen_ok, Sem.run_pure, getObj, Sem.run, hb, hck, hf, zer_run hz w]
        · cases ok
          · exact av_ok g z
          · exact .tuple' (.cons (av_ok g z) (.cons (.bool _) (.nil g)))
      · cases h
    · cases he
  · cases h

/-- Scalars that are equal are the same. -/
theorem aeq1_same {t : Nat} {x y : AV} (h : aeq1 P t x y = some true) : x = y := by
  unfold aeq1 at h
  split at h
  · split at h
    · rename_i hk; subst hk; simp at h; rw [h]
    · cases h
  · simp [bseq] at h
    congr 1
    cases ‹ByteArray›; cases ‹ByteArray›
    simp at h
    rw [h]
  · simp at h; rw [h]
  · cases h

theorem aeqF_same {xs ys : List AV} : ∀ {fs : List Field}, (fs.all fun f => f.name != "_") = true → (∀ f ∈ fs, kindT P f.type = some none) → aeqF P xs ys fs = some true → ∀ f ∈ fs, ∃ v, xs[f.offset]? = some v ∧ ys[f.offset]? = some v
  | [], _, _, _ => by simp
  | f :: fs, hn, hk, h => by
    simp only [List.all_cons, Bool.and_eq_true] at hn
    have hn' : f.name ≠ "_" := by simpa using hn.1
    simp only [aeqF, if_pos hn'] at h
    split at h
    · rename_i x y hx hy
      split at h
      · rename_i p q hp hq
        simp only [Option.some.injEq, Bool.and_eq_true] at h
        obtain ⟨rfl, rfl⟩ := h
        have e := aeq1_same hp
        subst e
        have hkf := hk f (by simp)
        simp only [apart, hkf] at hx hy
        intro f' hf'
        rcases List.mem_cons.1 hf' with rfl | hf'
        · exact ⟨x, hx, hy⟩
        · exact aeqF_same hn.2 (fun f hf => hk f (by simp [hf])) hq f' hf'
      · cases h
    · cases h

/-- Keys that are equal are the same. -/
theorem akey_same {k : Nat} {x y : AV} (hs : akeyOk P k x = true) (h : aeq P k x y = some true) : x = y := by
  unfold aeq at h
  split at h
  · rename_i xs ys
    split at h
    · rename_i hc
      obtain ⟨_, hk, _, hlen⟩ := hc
      unfold akeyOk at hs
      split at hs <;> try (rename_i h1; cases h1; done)
      · rename_i fs cs hu he
        cases he
        simp only [Bool.and_eq_true, beq_iff_eq] at hs
        obtain ⟨hoff, hall⟩ := hs
        have hfl : flds P k = fs.toList := by simp [flds, Program.fieldsOf, hu]
        rw [hfl] at h
        have hall' := List.all_eq_true.1 hall
        have hsame := aeqF_same (P := P) (xs := xs) (ys := ys) (fs := fs.toList) (List.all_eq_true.2 fun f hf => by have := hall' f hf; simp only [Bool.and_eq_true] at this; exact this.1)
          (fun f hf => by
            have := hall' f hf
            simp only [Bool.and_eq_true] at this
            have h2 := this.2
            unfold kindT
            split at h2 <;> first | (rename_i hu' _; rw [hu']) | cases h2) h
        congr 1
        apply List.ext_getElem?
        intro i
        rcases Nat.lt_or_ge i xs.length with hi | hi
        · have : i ∈ fs.toList.map (·.offset) := by rw [hoff]; exact List.mem_range.2 hi
          obtain ⟨f, hf, rfl⟩ := List.mem_map.1 this
          obtain ⟨v, h1, h2⟩ := hsame f hf
          rw [h1, h2]
        · rw [List.getElem?_eq_none hi, List.getElem?_eq_none (by omega)]
      · cases hs
    · cases h
  · exact aeq1_same h

theorem akey_spec {k : Nat} {key : AV} : ∀ {es : List (AV × AV)} {i j : Nat} {v : AV}, akey P k key es i = some (some (j, v)) → ∃ n e, j = i + n ∧ es[n]? = some e ∧ aeq P k key e.1 = some true ∧ e.2 = v
  | [], i, j, v, h => by simp [akey] at h
  | e :: es, i, j, v, h => by
    simp only [akey] at h
    split at h
    · rename_i he; cases h; exact ⟨0, e, rfl, rfl, he, rfl⟩
    · obtain ⟨n, e', h1, h2, h3, h4⟩ := akey_spec h
      exact ⟨n + 1, e', by omega, by simpa using h2, h3, h4⟩
    · cases h

theorem keyStays_ok (old new : Value) (w : World) : ∃ k w', (Instr.keyThatStays old new).run P w = .ok k w' ∧ (k = old ∨ k = new) ∧ (w' = w ∨ w' = w.drew) := by
  unfold Instr.keyThatStays
  split
  · exact ⟨new, w, rfl, .inr rfl, .inl rfl⟩
  · simp only [Sem.run_bind, run_choose]
    simp only [Question.forced, Bool.decide_eq_true, Nat.reduceEqDiff, decide_false, Bool.false_eq_true, if_false, Result.andThen_ok, Sem.run_pure]
    refine ⟨_, w.drew, rfl, ?_, .inr rfl⟩
    split
    · exact .inr rfl
    · exact .inl rfl

theorem mapUpdate_ok (hS : Sim B w0 g σ w) {t : Nat} {x key v r : AV} {u kv vv : Value} {σ' : State} (hx : RV g x u) (hk : RV g key kv) (hv : RV g v vv) (h : amapUpdate P σ t x key v = .ok r σ') :
    ∃ w', (Instr.mapUpdate t u kv vv).run P w = .ok () w' ∧ Sim B w0 g σ' w' ∧ r = .undef := by
  unfold amapUpdate at h
  split at h
  case h_2 => cases h
  rename_i k e id hm
  have hu := amap_inv hm
  split at h
  case isFalse => cases h
  rename_i hs
  split at h
  case h_2 => cases h
  rename_i es ho
  split at h
  case h_2 => cases h
  rename_i r0 hak
  cases h
  cases hx with
  | map _ i hi =>
    obtain ⟨i', ms, cl, h1, hB, hh, hrm⟩ := hS.map ho
    rw [hi] at h1; cases h1
    have hd : σ.objs id ≠ .dead := by rw [ho]; simp
    have hF : ∀ o, g.F i.blk o = none := fun o => by
      cases hf : g.F i.blk o with
      | none => rfl
      | some v => have := hS.froz _ _ _ hf; simp [World.cell?, hh] at this
    have hck : (Instr.checkKey false 10000 k kv).run P w = .ok () w := checkKey_ok (n := 9998) hk hs
    obtain ⟨r', hf, hr'⟩ := findKey_ok (P := P) (w := w) hk hs hrm hak
    have hlt : i.blk < w.heap.size := (Array.getElem?_eq_some_iff.1 hh).1
    have put : ∀ (w1 : World) (o : Obj), (w1 = w ∨ w1 = w.drew) → (setObj i.blk o).run P w1 = .ok () { w1 with heap := w1.heap.setIfInBounds i.blk o } := by
      rintro w1 o (rfl | rfl)
      · simp [setObj, Sem.run, hh]
      · have : w.drew.heap[i.blk]? = some (.map ms cl) := hh
        simp [setObj, Sem.run, this]
    have step : ∀ (w1 : World) (ms' : Array MapEntry) (cl' : Nat) (es' : List (AV × AV)), (w1 = w ∨ w1 = w.drew) → RVM g es' ms'.toList → Sim B w0 g (σ.set id (.map es')) { w1 with heap := w1.heap.setIfInBounds i.blk (.map ms' cl') } := by
      intro w1 ms' cl' es' hw1 hr
      have hS1 : Sim B w0 g σ w1 := by rcases hw1 with rfl | rfl; exact hS; exact hS.drew
      have hh1 : w1.heap = w.heap := by rcases hw1 with rfl | rfl <;> rfl
      refine hS1.write (w' := { w1 with heap := w1.heap.setIfInBounds i.blk (.map ms' cl') }) hi hd hF rfl rfl rfl (by simp) (fun b hb => ?_) _ ?_
      · show (w1.heap.setIfInBounds i.blk _)[b]? = _
        rw [Array.getElem?_setIfInBounds_ne (Ne.symm hb)]
      · refine ⟨i, ms', cl', hi, hB, ?_, by simpa using hr.1, fun q a b => by have := hr.2 q a (by simpa using b); rw [Array.getElem_toList] at this; exact this⟩
        show (w1.heap.setIfInBounds i.blk _)[i.blk]? = _
        rw [hh1]
        simp [hlt]
    rcases hr' with ⟨rfl, rfl⟩ | ⟨j, v', uv, rfl, rfl, _, hj⟩
    · refine ⟨_, ?_, step w (ms.push { key := kv, val := vv, born := cl }) (cl + 1) _ (.inl rfl) ?_, rfl⟩
      · simp only [Instr.mapUpdate, Sem.run_bind, run_underlying hu, Result.andThen_ok, Sem.run_pure, getObj, Sem.run, hh, hck, hf]
        exact put w _ (.inl rfl)
      · simp only [amapSet]
        refine ⟨by simp [hrm.1], fun q a b => ?_⟩
        rcases Nat.lt_or_ge q es.length with hq | hq
        · have hq' : q < ms.toList.length := by rw [← hrm.1]; exact hq
          have := hrm.2 q hq hq'
          simp only [Array.toList_push]
          rw [List.getElem_append_left hq, List.getElem_append_left hq']
          exact this
        · have e1 : q = es.length := by simp at a; omega
          subst e1
          have e2 : es.length = ms.toList.length := hrm.1
          simp only [Array.toList_push]
          rw [List.getElem_append_right (Nat.le_refl _), List.getElem_append_right (by omega)]
          simp only [Nat.sub_self, List.getElem_cons_zero, e2]
          exact ⟨hk, hv⟩
    · obtain ⟨n, e0, hjn, hen, heq, hev⟩ := akey_spec hak
      simp only [Nat.zero_add] at hjn
      subst hjn
      have hsame := akey_same hs heq
      have hn' : j < ms.size := by have := hrm.1; simp at this; omega
      have hnl : j < ms.toList.length := by simpa using hn'
      have hold : RV g key (ms[j]).key := by
        have h2 := (hrm.2 j hj hnl).1
        have h3 : es[j] = e0 := (List.getElem?_eq_some_iff.1 hen).2
        rw [h3, ← hsame] at h2
        simpa using h2
      have hgetk : ((ms[j]?).map (·.key)).getD kv = (ms[j]).key := by simp [hn']
      obtain ⟨kk, w1, hrun, hkk, hw1⟩ := keyStays_ok (P := P) (ms[j]).key kv w
      refine ⟨_, ?_, step w1 (ms.modify j fun e => { e with key := kk, val := vv }) cl _ hw1 ?_, rfl⟩
      · simp only [Instr.mapUpdate, Sem.run_bind, run_underlying hu, Result.andThen_ok, Sem.run_pure, getObj, Sem.run, hh, hck, hf, hgetk, hrun]
        exact put w1 _ hw1
      · simp only [amapSet]
        refine ⟨by simp [hrm.1], fun q a b => ?_⟩
        have hq : q < es.length := by simpa using a
        have hq' : q < ms.toList.length := by rw [← hrm.1]; exact hq
        have h2 := hrm.2 q hq hq'
        simp only [Array.toList_modify, List.getElem_set, List.getElem_modify]
        by_cases hqn : j = q
        · subst hqn
          simp only [if_true]
          refine ⟨?_, hv⟩
          rcases hkk with rfl | rfl
          · exact hold
          · exact hk
        · simp only [hqn, if_false]
          exact h2

theorem min2_ok {mx : Bool} {x y r : AV} {u v : Value} (hx : RV g x u) (hy : RV g y v) (h : amin2 mx x y = some r) : (if mx then Builtin.max2 u v else Builtin.min2 u v).run P w = .ok (match r with | .int k n => .int k n | _ => undef) w ∧ RV g r (match r with | .int k n => .int k n | _ => undef) := by
  unfold amin2 at h
  split at h
  · cases h; cases hx; cases hy
    cases mx <;> exact ⟨rfl, .int _ _⟩
  · cases h

theorem hasBody_run {f : Nat} (h : hasBody P f = true) (vs : Array Value) (w : World) : (callFunc f vs).run P w = .ok (.enter f vs) w := by
  unfold hasBody at h
  cases hf : P.funcs[f]? with
  | none => simp [hf] at h
  | some fn =>
    simp only [hf, Bool.and_eq_true, Bool.not_eq_true', beq_eq_false_iff_ne, ne_eq] at h
    have h1 : fn.body.isNone = false := by cases hb : fn.body with | none => simp [hb] at h | some c => rfl
    have h2 : (fn.name == "runtime.NumGoroutine") = false := by simpa using h.2
    simp only [callFunc, Sem.run_bind, run_program, Result.andThen_ok, hf, h2, Bool.false_eq_true, if_false, h1, Sem.run_pure]
end

theorem akeyAny_perm {P : Program} {k : Nat} {key : AV} {es es' : List (AV × AV)} (hp : es.Perm es') : ∀ r, akeyAny P k key es = some r → ∃ r', akeyAny P k key es' = some r' ∧ r.Perm r' := by
  induction hp with
  | nil => intro r h; exact ⟨r, h, .refl r⟩
  | cons x _ ih =>
    intro r h
    simp only [akeyAny] at h ⊢
    split at h
    · rename_i h1 h2; cases h; obtain ⟨r', h3, h4⟩ := ih _ h2; exact ⟨_, by rw [h1, h3], h4.cons _⟩
    · rename_i h1 h2; cases h; obtain ⟨r', h3, h4⟩ := ih _ h2; exact ⟨_, by rw [h1, h3], h4⟩
    · cases h
  | swap x y l =>
    intro r h
    simp only [akeyAny] at h ⊢
    cases h1 : aeq P k key x.1 with
    | none => rw [h1] at h; cases h2 : aeq P k key y.1 with
      | none => rw [h2] at h; simp at h
      | some b => rw [h2] at h; cases b <;> simp at h
    | some b1 =>
      cases h2 : aeq P k key y.1 with
      | none => rw [h2] at h; simp at h
      | some b2 =>
        rw [h1, h2] at h
        cases h3 : akeyAny P k key l with
        | none => rw [h3] at h; cases b1 <;> cases b2 <;> simp at h
        | some r0 =>
          rw [h3] at h
          cases b1 <;> cases b2 <;> simp at h <;> subst h <;> simp <;> exact List.Perm.swap _ _ _
  | trans _ _ ih1 ih2 =>
    intro r h
    obtain ⟨r1, h1, h2⟩ := ih1 r h
    obtain ⟨r2, h3, h4⟩ := ih2 r1 h1
    exact ⟨r2, h3, h2.trans h4⟩

theorem akey_any {P : Program} {k : Nat} {key : AV} : ∀ (es : List (AV × AV)) (i : Nat), (akeyAny P k key es = some [] → akey P k key es i = some none) ∧ (∀ v, akeyAny P k key es = some [v] → ∃ j, akey P k key es i = some (some (j, v)))
  | [], i => ⟨fun _ => rfl, fun v h => by simp [akeyAny] at h⟩
  | e :: es, i => by
    have ih := akey_any (P := P) (k := k) (key := key) es (i + 1)
    constructor
    · intro h
      simp only [akeyAny] at h
      split at h
      · cases h
      · rename_i h1 h2; cases h; simp only [akey, h1]; exact ih.1 h2
      · cases h
    · intro v h
      simp only [akeyAny] at h
      split at h
      · rename_i h1 h2; cases h; simp only [akey, h1]; exact ⟨i, rfl⟩
      · rename_i h1 h2; cases h; simp only [akey, h1]; exact ih.2 v h2
      · cases h

theorem look_ok {P : Program} {B : Nat} {w0 : World} {g : Ghost} {σ : State} {w : World} (hS : Sim B w0 g σ w) {t : Nat} {x key r : AV} {ok : Bool} {u kv : Value} (hx : RV g x u) (hk : RV g key kv) (h : alook P σ t x key ok = some r) : ∃ z, (Instr.lookup t u kv ok).run P w = .ok z w ∧ RV g r z := by
  unfold alook at h
  split at h
  · rename_i id es hm
    unfold acmapOf at hm
    split at hm
    · rename_i id'
      split at hm
      · rename_i es' ho
        cases hm
        have hob := hS.objs id
        rw [ho] at hob
        obtain ⟨i, ms, cl, l, h1, h2, h3, h4, h5, h6⟩ := hob
        have hS' := hS.retell (o' := .map l) (by rw [ho]; simp) ⟨i, ms, cl, h1, h2, h3, h4, h5⟩
        refine lookup_ok hS' hx hk ?_
        unfold aclookup at h
        unfold alookup
        split at h
        · rename_i k e hmt
          try rw [hmt]
          try simp only
          split at h
          · rename_i hok
            rw [if_pos hok]
            have hof : amapOf (σ.set id (.map l)) (.map id) = some l := by simp [amapOf, State.set]
            rw [hof]
            simp only
            split at h
            · rename_i v hv
              obtain ⟨r', h7, h8⟩ := akeyAny_perm h6.symm _ hv
              rw [← List.singleton_perm.1 h8] at h7
              obtain ⟨j, hj⟩ := (akey_any l 0).2 v h7
              rw [hj]; exact h
            · rename_i hv
              obtain ⟨r', h7, h8⟩ := akeyAny_perm h6.symm _ hv
              rw [List.nil_perm.1 h8] at h7
              rw [(akey_any l 0).1 h7]; exact h
            · cases h
          · cases h
        · cases h
      · cases hm
    · cases hm
  · exact lookup_ok hS hx hk h

end Go.V
